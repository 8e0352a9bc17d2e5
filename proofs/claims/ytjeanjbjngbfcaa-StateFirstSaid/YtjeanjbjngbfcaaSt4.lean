/- Package state: sized, fits, bits; old memory is as it was. No condition but those in each statement. -/
import Derived.Test.YtjeanjbjngbfcaaProg
import Derived.Test.YtjeanjbjngbfcaaGp
import Derived.Test.YtjeanjbjngbfcaaSt1
import Derived.Test.YtjeanjbjngbfcaaSt2
namespace Hk
open Go Go.RowKit Go.Proofs
set_option linter.unusedSimpArgs false
set_option linter.unusedVariables false
set_option maxRecDepth 100000
attribute [go_sem] Tn.eta Sp.eta Fa.eta Vl.eta
theorem tsized_c (n : Int) (w : World) : Calls Try.prog 30 #[.int .i64 n] w fun e w' => e = .returned (.bool (St.sized n)) ∧ Below w.heap.size w w' := by
  by_cases e1 : n = 1
  · subst e1
    go_enter Try.func30, Try.ntmps30
    go_wp2
    go_ret
    exact ⟨rfl, (by repeat' (first | (with_reducible exact Below.refl _ _) | (with_reducible assumption) | (with_reducible refine Below.alloc ?_ ?_ _) | (with_reducible refine Below.setCell ?_ ?_ _) | (with_reducible refine below_setRow ?_ ?_) | (with_reducible refine Below.drew ?_) | (with_reducible refine below_dn ?_ _) | (with_reducible refine Below.trans ?_ (Below.mono (by assumption) ?_)) | go_size))⟩
  by_cases e2 : n = 2
  · subst e2
    go_enter Try.func30, Try.ntmps30
    go_wp2
    go_ret
    exact ⟨rfl, (by repeat' (first | (with_reducible exact Below.refl _ _) | (with_reducible assumption) | (with_reducible refine Below.alloc ?_ ?_ _) | (with_reducible refine Below.setCell ?_ ?_ _) | (with_reducible refine below_setRow ?_ ?_) | (with_reducible refine Below.drew ?_) | (with_reducible refine below_dn ?_ _) | (with_reducible refine Below.trans ?_ (Below.mono (by assumption) ?_)) | go_size))⟩
  by_cases e4 : n = 4
  · subst e4
    go_enter Try.func30, Try.ntmps30
    go_wp2
    go_ret
    exact ⟨rfl, (by repeat' (first | (with_reducible exact Below.refl _ _) | (with_reducible assumption) | (with_reducible refine Below.alloc ?_ ?_ _) | (with_reducible refine Below.setCell ?_ ?_ _) | (with_reducible refine below_setRow ?_ ?_) | (with_reducible refine Below.drew ?_) | (with_reducible refine below_dn ?_ _) | (with_reducible refine Below.trans ?_ (Below.mono (by assumption) ?_)) | go_size))⟩
  by_cases e8 : n = 8
  · subst e8
    go_enter Try.func30, Try.ntmps30
    go_wp2
    go_ret
    exact ⟨rfl, (by repeat' (first | (with_reducible exact Below.refl _ _) | (with_reducible assumption) | (with_reducible refine Below.alloc ?_ ?_ _) | (with_reducible refine Below.setCell ?_ ?_ _) | (with_reducible refine below_setRow ?_ ?_) | (with_reducible refine Below.drew ?_) | (with_reducible refine below_dn ?_ _) | (with_reducible refine Below.trans ?_ (Below.mono (by assumption) ?_)) | go_size))⟩
  go_enter Try.func30, Try.ntmps30
  go_wp2
  go_ret
  exact ⟨by simp [St.sized, *], (by repeat' (first | (with_reducible exact Below.refl _ _) | (with_reducible assumption) | (with_reducible refine Below.alloc ?_ ?_ _) | (with_reducible refine Below.setCell ?_ ?_ _) | (with_reducible refine below_setRow ?_ ?_) | (with_reducible refine Below.drew ?_) | (with_reducible refine below_dn ?_ _) | (with_reducible refine Below.trans ?_ (Below.mono (by assumption) ?_)) | go_size))⟩

theorem tfits_1a (o : Int) (h : o < 0) (w : World) : Calls Try.prog 31 #[.int .i64 o, .int .i64 1] w fun e w' => e = .returned (.int .i64 80) ∧ Below w.heap.size w w' := by
  go_enter Try.func31, Try.ntmps31
  go_wp2
  all_goals (go_ret; exact ⟨rfl, (by repeat' (first | (with_reducible exact Below.refl _ _) | (with_reducible assumption) | (with_reducible refine Below.alloc ?_ ?_ _) | (with_reducible refine Below.setCell ?_ ?_ _) | (with_reducible refine below_setRow ?_ ?_) | (with_reducible refine Below.drew ?_) | (with_reducible refine below_dn ?_ _) | (with_reducible refine Below.trans ?_ (Below.mono (by assumption) ?_)) | go_size))⟩)

theorem tfits_1b (o : Int) (h0 : 0 ≤ o) (h1 : 512 - 1 < o) (w : World) : Calls Try.prog 31 #[.int .i64 o, .int .i64 1] w fun e w' => e = .returned (.int .i64 80) ∧ Below w.heap.size w w' := by
  simp only [Int.reduceSub] at h1
  go_enter Try.func31, Try.ntmps31
  go_wp2
  all_goals (go_ret; exact ⟨rfl, (by repeat' (first | (with_reducible exact Below.refl _ _) | (with_reducible assumption) | (with_reducible refine Below.alloc ?_ ?_ _) | (with_reducible refine Below.setCell ?_ ?_ _) | (with_reducible refine below_setRow ?_ ?_) | (with_reducible refine Below.drew ?_) | (with_reducible refine below_dn ?_ _) | (with_reducible refine Below.trans ?_ (Below.mono (by assumption) ?_)) | go_size))⟩)

theorem tfits_1c (o : Int) (h0 : 0 ≤ o) (h1 : o ≤ 512 - 1) (h2 : o % 1 = 0) (w : World) : Calls Try.prog 31 #[.int .i64 o, .int .i64 1] w fun e w' => e = .returned (.int .i64 0) ∧ Below w.heap.size w w' := by
  simp only [Int.reduceSub] at h1
  have h3 := Int.emod_one o
  go_enter Try.func31, Try.ntmps31
  go_wp2
  all_goals (go_ret; exact ⟨rfl, (by repeat' (first | (with_reducible exact Below.refl _ _) | (with_reducible assumption) | (with_reducible refine Below.alloc ?_ ?_ _) | (with_reducible refine Below.setCell ?_ ?_ _) | (with_reducible refine below_setRow ?_ ?_) | (with_reducible refine Below.drew ?_) | (with_reducible refine below_dn ?_ _) | (with_reducible refine Below.trans ?_ (Below.mono (by assumption) ?_)) | go_size))⟩)

theorem tfits_1 (o : Int) (w : World) : Calls Try.prog 31 #[.int .i64 o, .int .i64 1] w fun e w' => e = .returned (.int .i64 (St.fitsE o 1)) ∧ Below w.heap.size w w' := by
  by_cases h : o < 0
  · have e : St.fitsE o 1 = 80 := by unfold St.fitsE; rw [if_pos (.inl h)]
    rw [e]; exact tfits_1a o h w
  have h0 : 0 ≤ o := by omega
  by_cases h1 : 512 - 1 < o
  · have e : St.fitsE o 1 = 80 := by unfold St.fitsE; rw [if_pos (.inr h1)]
    rw [e]; exact tfits_1b o h0 h1 w
  have h1 : o ≤ 512 - 1 := by omega
  by_cases h2 : o % 1 = 0
  · have e : St.fitsE o 1 = 0 := by unfold St.fitsE; rw [if_neg (by omega), if_pos h2]
    rw [e]; exact tfits_1c o h0 h1 h2 w
  · exact absurd (by omega) h2

theorem tfits_2a (o : Int) (h : o < 0) (w : World) : Calls Try.prog 31 #[.int .i64 o, .int .i64 2] w fun e w' => e = .returned (.int .i64 80) ∧ Below w.heap.size w w' := by
  go_enter Try.func31, Try.ntmps31
  go_wp2
  all_goals (go_ret; exact ⟨rfl, (by repeat' (first | (with_reducible exact Below.refl _ _) | (with_reducible assumption) | (with_reducible refine Below.alloc ?_ ?_ _) | (with_reducible refine Below.setCell ?_ ?_ _) | (with_reducible refine below_setRow ?_ ?_) | (with_reducible refine Below.drew ?_) | (with_reducible refine below_dn ?_ _) | (with_reducible refine Below.trans ?_ (Below.mono (by assumption) ?_)) | go_size))⟩)

theorem tfits_2b (o : Int) (h0 : 0 ≤ o) (h1 : 512 - 2 < o) (w : World) : Calls Try.prog 31 #[.int .i64 o, .int .i64 2] w fun e w' => e = .returned (.int .i64 80) ∧ Below w.heap.size w w' := by
  simp only [Int.reduceSub] at h1
  go_enter Try.func31, Try.ntmps31
  go_wp2
  all_goals (go_ret; exact ⟨rfl, (by repeat' (first | (with_reducible exact Below.refl _ _) | (with_reducible assumption) | (with_reducible refine Below.alloc ?_ ?_ _) | (with_reducible refine Below.setCell ?_ ?_ _) | (with_reducible refine below_setRow ?_ ?_) | (with_reducible refine Below.drew ?_) | (with_reducible refine below_dn ?_ _) | (with_reducible refine Below.trans ?_ (Below.mono (by assumption) ?_)) | go_size))⟩)

theorem tfits_2c (o : Int) (h0 : 0 ≤ o) (h1 : o ≤ 512 - 2) (h2 : o % 2 = 0) (w : World) : Calls Try.prog 31 #[.int .i64 o, .int .i64 2] w fun e w' => e = .returned (.int .i64 0) ∧ Below w.heap.size w w' := by
  simp only [Int.reduceSub] at h1
  go_enter Try.func31, Try.ntmps31
  go_wp2
  all_goals (go_ret; exact ⟨rfl, (by repeat' (first | (with_reducible exact Below.refl _ _) | (with_reducible assumption) | (with_reducible refine Below.alloc ?_ ?_ _) | (with_reducible refine Below.setCell ?_ ?_ _) | (with_reducible refine below_setRow ?_ ?_) | (with_reducible refine Below.drew ?_) | (with_reducible refine below_dn ?_ _) | (with_reducible refine Below.trans ?_ (Below.mono (by assumption) ?_)) | go_size))⟩)

theorem tfits_2d (o : Int) (h0 : 0 ≤ o) (h1 : o ≤ 512 - 2) (h2 : ¬ o % 2 = 0) (w : World) : Calls Try.prog 31 #[.int .i64 o, .int .i64 2] w fun e w' => e = .returned (.int .i64 130) ∧ Below w.heap.size w w' := by
  simp only [Int.reduceSub] at h1
  go_enter Try.func31, Try.ntmps31
  go_wp2
  all_goals (go_ret; exact ⟨rfl, (by repeat' (first | (with_reducible exact Below.refl _ _) | (with_reducible assumption) | (with_reducible refine Below.alloc ?_ ?_ _) | (with_reducible refine Below.setCell ?_ ?_ _) | (with_reducible refine below_setRow ?_ ?_) | (with_reducible refine Below.drew ?_) | (with_reducible refine below_dn ?_ _) | (with_reducible refine Below.trans ?_ (Below.mono (by assumption) ?_)) | go_size))⟩)

theorem tfits_2 (o : Int) (w : World) : Calls Try.prog 31 #[.int .i64 o, .int .i64 2] w fun e w' => e = .returned (.int .i64 (St.fitsE o 2)) ∧ Below w.heap.size w w' := by
  by_cases h : o < 0
  · have e : St.fitsE o 2 = 80 := by unfold St.fitsE; rw [if_pos (.inl h)]
    rw [e]; exact tfits_2a o h w
  have h0 : 0 ≤ o := by omega
  by_cases h1 : 512 - 2 < o
  · have e : St.fitsE o 2 = 80 := by unfold St.fitsE; rw [if_pos (.inr h1)]
    rw [e]; exact tfits_2b o h0 h1 w
  have h1 : o ≤ 512 - 2 := by omega
  by_cases h2 : o % 2 = 0
  · have e : St.fitsE o 2 = 0 := by unfold St.fitsE; rw [if_neg (by omega), if_pos h2]
    rw [e]; exact tfits_2c o h0 h1 h2 w
  · have e : St.fitsE o 2 = 130 := by unfold St.fitsE; rw [if_neg (by omega), if_neg h2]
    rw [e]; exact tfits_2d o h0 h1 h2 w

theorem tfits_4a (o : Int) (h : o < 0) (w : World) : Calls Try.prog 31 #[.int .i64 o, .int .i64 4] w fun e w' => e = .returned (.int .i64 80) ∧ Below w.heap.size w w' := by
  go_enter Try.func31, Try.ntmps31
  go_wp2
  all_goals (go_ret; exact ⟨rfl, (by repeat' (first | (with_reducible exact Below.refl _ _) | (with_reducible assumption) | (with_reducible refine Below.alloc ?_ ?_ _) | (with_reducible refine Below.setCell ?_ ?_ _) | (with_reducible refine below_setRow ?_ ?_) | (with_reducible refine Below.drew ?_) | (with_reducible refine below_dn ?_ _) | (with_reducible refine Below.trans ?_ (Below.mono (by assumption) ?_)) | go_size))⟩)

theorem tfits_4b (o : Int) (h0 : 0 ≤ o) (h1 : 512 - 4 < o) (w : World) : Calls Try.prog 31 #[.int .i64 o, .int .i64 4] w fun e w' => e = .returned (.int .i64 80) ∧ Below w.heap.size w w' := by
  simp only [Int.reduceSub] at h1
  go_enter Try.func31, Try.ntmps31
  go_wp2
  all_goals (go_ret; exact ⟨rfl, (by repeat' (first | (with_reducible exact Below.refl _ _) | (with_reducible assumption) | (with_reducible refine Below.alloc ?_ ?_ _) | (with_reducible refine Below.setCell ?_ ?_ _) | (with_reducible refine below_setRow ?_ ?_) | (with_reducible refine Below.drew ?_) | (with_reducible refine below_dn ?_ _) | (with_reducible refine Below.trans ?_ (Below.mono (by assumption) ?_)) | go_size))⟩)

theorem tfits_4c (o : Int) (h0 : 0 ≤ o) (h1 : o ≤ 512 - 4) (h2 : o % 4 = 0) (w : World) : Calls Try.prog 31 #[.int .i64 o, .int .i64 4] w fun e w' => e = .returned (.int .i64 0) ∧ Below w.heap.size w w' := by
  simp only [Int.reduceSub] at h1
  go_enter Try.func31, Try.ntmps31
  go_wp2
  all_goals (go_ret; exact ⟨rfl, (by repeat' (first | (with_reducible exact Below.refl _ _) | (with_reducible assumption) | (with_reducible refine Below.alloc ?_ ?_ _) | (with_reducible refine Below.setCell ?_ ?_ _) | (with_reducible refine below_setRow ?_ ?_) | (with_reducible refine Below.drew ?_) | (with_reducible refine below_dn ?_ _) | (with_reducible refine Below.trans ?_ (Below.mono (by assumption) ?_)) | go_size))⟩)

theorem tfits_4d (o : Int) (h0 : 0 ≤ o) (h1 : o ≤ 512 - 4) (h2 : ¬ o % 4 = 0) (w : World) : Calls Try.prog 31 #[.int .i64 o, .int .i64 4] w fun e w' => e = .returned (.int .i64 130) ∧ Below w.heap.size w w' := by
  simp only [Int.reduceSub] at h1
  go_enter Try.func31, Try.ntmps31
  go_wp2
  all_goals (go_ret; exact ⟨rfl, (by repeat' (first | (with_reducible exact Below.refl _ _) | (with_reducible assumption) | (with_reducible refine Below.alloc ?_ ?_ _) | (with_reducible refine Below.setCell ?_ ?_ _) | (with_reducible refine below_setRow ?_ ?_) | (with_reducible refine Below.drew ?_) | (with_reducible refine below_dn ?_ _) | (with_reducible refine Below.trans ?_ (Below.mono (by assumption) ?_)) | go_size))⟩)

theorem tfits_4 (o : Int) (w : World) : Calls Try.prog 31 #[.int .i64 o, .int .i64 4] w fun e w' => e = .returned (.int .i64 (St.fitsE o 4)) ∧ Below w.heap.size w w' := by
  by_cases h : o < 0
  · have e : St.fitsE o 4 = 80 := by unfold St.fitsE; rw [if_pos (.inl h)]
    rw [e]; exact tfits_4a o h w
  have h0 : 0 ≤ o := by omega
  by_cases h1 : 512 - 4 < o
  · have e : St.fitsE o 4 = 80 := by unfold St.fitsE; rw [if_pos (.inr h1)]
    rw [e]; exact tfits_4b o h0 h1 w
  have h1 : o ≤ 512 - 4 := by omega
  by_cases h2 : o % 4 = 0
  · have e : St.fitsE o 4 = 0 := by unfold St.fitsE; rw [if_neg (by omega), if_pos h2]
    rw [e]; exact tfits_4c o h0 h1 h2 w
  · have e : St.fitsE o 4 = 130 := by unfold St.fitsE; rw [if_neg (by omega), if_neg h2]
    rw [e]; exact tfits_4d o h0 h1 h2 w

theorem tfits_8a (o : Int) (h : o < 0) (w : World) : Calls Try.prog 31 #[.int .i64 o, .int .i64 8] w fun e w' => e = .returned (.int .i64 80) ∧ Below w.heap.size w w' := by
  go_enter Try.func31, Try.ntmps31
  go_wp2
  all_goals (go_ret; exact ⟨rfl, (by repeat' (first | (with_reducible exact Below.refl _ _) | (with_reducible assumption) | (with_reducible refine Below.alloc ?_ ?_ _) | (with_reducible refine Below.setCell ?_ ?_ _) | (with_reducible refine below_setRow ?_ ?_) | (with_reducible refine Below.drew ?_) | (with_reducible refine below_dn ?_ _) | (with_reducible refine Below.trans ?_ (Below.mono (by assumption) ?_)) | go_size))⟩)

theorem tfits_8b (o : Int) (h0 : 0 ≤ o) (h1 : 512 - 8 < o) (w : World) : Calls Try.prog 31 #[.int .i64 o, .int .i64 8] w fun e w' => e = .returned (.int .i64 80) ∧ Below w.heap.size w w' := by
  simp only [Int.reduceSub] at h1
  go_enter Try.func31, Try.ntmps31
  go_wp2
  all_goals (go_ret; exact ⟨rfl, (by repeat' (first | (with_reducible exact Below.refl _ _) | (with_reducible assumption) | (with_reducible refine Below.alloc ?_ ?_ _) | (with_reducible refine Below.setCell ?_ ?_ _) | (with_reducible refine below_setRow ?_ ?_) | (with_reducible refine Below.drew ?_) | (with_reducible refine below_dn ?_ _) | (with_reducible refine Below.trans ?_ (Below.mono (by assumption) ?_)) | go_size))⟩)

theorem tfits_8c (o : Int) (h0 : 0 ≤ o) (h1 : o ≤ 512 - 8) (h2 : o % 8 = 0) (w : World) : Calls Try.prog 31 #[.int .i64 o, .int .i64 8] w fun e w' => e = .returned (.int .i64 0) ∧ Below w.heap.size w w' := by
  simp only [Int.reduceSub] at h1
  go_enter Try.func31, Try.ntmps31
  go_wp2
  all_goals (go_ret; exact ⟨rfl, (by repeat' (first | (with_reducible exact Below.refl _ _) | (with_reducible assumption) | (with_reducible refine Below.alloc ?_ ?_ _) | (with_reducible refine Below.setCell ?_ ?_ _) | (with_reducible refine below_setRow ?_ ?_) | (with_reducible refine Below.drew ?_) | (with_reducible refine below_dn ?_ _) | (with_reducible refine Below.trans ?_ (Below.mono (by assumption) ?_)) | go_size))⟩)

theorem tfits_8d (o : Int) (h0 : 0 ≤ o) (h1 : o ≤ 512 - 8) (h2 : ¬ o % 8 = 0) (w : World) : Calls Try.prog 31 #[.int .i64 o, .int .i64 8] w fun e w' => e = .returned (.int .i64 130) ∧ Below w.heap.size w w' := by
  simp only [Int.reduceSub] at h1
  go_enter Try.func31, Try.ntmps31
  go_wp2
  all_goals (go_ret; exact ⟨rfl, (by repeat' (first | (with_reducible exact Below.refl _ _) | (with_reducible assumption) | (with_reducible refine Below.alloc ?_ ?_ _) | (with_reducible refine Below.setCell ?_ ?_ _) | (with_reducible refine below_setRow ?_ ?_) | (with_reducible refine Below.drew ?_) | (with_reducible refine below_dn ?_ _) | (with_reducible refine Below.trans ?_ (Below.mono (by assumption) ?_)) | go_size))⟩)

theorem tfits_8 (o : Int) (w : World) : Calls Try.prog 31 #[.int .i64 o, .int .i64 8] w fun e w' => e = .returned (.int .i64 (St.fitsE o 8)) ∧ Below w.heap.size w w' := by
  by_cases h : o < 0
  · have e : St.fitsE o 8 = 80 := by unfold St.fitsE; rw [if_pos (.inl h)]
    rw [e]; exact tfits_8a o h w
  have h0 : 0 ≤ o := by omega
  by_cases h1 : 512 - 8 < o
  · have e : St.fitsE o 8 = 80 := by unfold St.fitsE; rw [if_pos (.inr h1)]
    rw [e]; exact tfits_8b o h0 h1 w
  have h1 : o ≤ 512 - 8 := by omega
  by_cases h2 : o % 8 = 0
  · have e : St.fitsE o 8 = 0 := by unfold St.fitsE; rw [if_neg (by omega), if_pos h2]
    rw [e]; exact tfits_8c o h0 h1 h2 w
  · have e : St.fitsE o 8 = 130 := by unfold St.fitsE; rw [if_neg (by omega), if_neg h2]
    rw [e]; exact tfits_8d o h0 h1 h2 w

theorem tbits_c (o n : Int) (h0 : 0 ≤ o) (h1 : 0 ≤ n) (h2 : o ≤ 512) (w : World) : Calls Try.prog 32 #[.int .i64 o, .int .i64 n] w fun e w' => e = .returned (.int .u8 (N8 (St.bits o n))) ∧ Below w.heap.size w w' := by
  go_enter Try.func32, Try.ntmps32
  go_wp2
  go_ret
  exact ⟨Eq.trans rfl (congrArg (fun z => Ending.returned (Value.int .u8 z)) (N8_shl' _ (o % 8).toNat (by omega))), (by repeat' (first | (with_reducible exact Below.refl _ _) | (with_reducible assumption) | (with_reducible refine Below.alloc ?_ ?_ _) | (with_reducible refine Below.setCell ?_ ?_ _) | (with_reducible refine below_setRow ?_ ?_) | (with_reducible refine Below.drew ?_) | (with_reducible refine below_dn ?_ _) | (with_reducible refine Below.trans ?_ (Below.mono (by assumption) ?_)) | go_size))⟩

end Hk
