/- The reference of registers: At, Area, in, Right; old memory is as it was. No condition but those in each statement. -/
import Derived.Test.YtjeanjbjngbfcaaProg
import Derived.Test.YtjeanjbjngbfcaaGp
import Derived.Test.YtjeanjbjngbfcaaGv
import Derived.Test.YtjeanjbjngbfcaaVl2
import Derived.Test.YtjeanjbjngbfcaaVl5
import Derived.Test.YtjeanjbjngbfcaaGx
namespace Hk
open Go Go.RowKit Go.Proofs
set_option linter.unusedSimpArgs false
set_option linter.unusedVariables false
set_option maxRecDepth 100000
attribute [go_sem] Tn.eta Sp.eta Fa.eta Vl.eta
def NoSlot (i off : Int) (n : BitVec 64) (k : Nat) : Prop := ∀ s : Nat, s < k → ¬ n = Vl.at_ (Vl.area i s) off
set_option maxHeartbeats 2000000 in
theorem rvright_0 (f : Fa) (i off : Int)  (w : World) : Calls Try.prog 13 #[.agg #[.int .u8 0, .int .u64 (N f.t.v), .int .u64 (N f.t.m), .int .u64 (N f.s.lo), .int .u64 (N f.s.hi), .int .i64 i, .int .i64 off]] w fun e w' => e = .returned (.bool (Vl.right ⟨0, f, i, off⟩)) ∧ Below w.heap.size w w' := by
  cases hi : decide (0 ≤ i) <;> cases ho : decide (-1048576 ≤ off)
  all_goals
    go_enter Try.func13, Try.ntmps13
    go_wp2_with (first | (go_at_call 29; (with_reducible refine (rfright_c' _ _ _ _ _).mono ?_); rintro e w1 ⟨rfl, hb1⟩; obtain ⟨hc1, hf1, hz1⟩ := bcell hb1; (try simp only [World.size_alloc, World.size_setCell, World.size_drew] at hc1 hf1 hz1)))
    all_goals (go_ret; refine ⟨congrArg Ending.returned (congrArg Value.bool ?_), (by repeat' (first | (with_reducible exact Below.refl _ _) | (with_reducible assumption) | (with_reducible refine Below.alloc ?_ ?_ _) | (with_reducible refine Below.setCell ?_ ?_ _) | (with_reducible refine Below.drew ?_) | (with_reducible refine below_dn ?_ _) | (with_reducible refine Below.trans ?_ (Below.mono (by assumption) ?_)) | go_size))⟩; (try rw [Bool.eq_iff_iff]); simp only [decide_eq_false_iff_not, decide_eq_true_eq] at hi ho; simp [Vl.right, Vl.reach, Vl.isZ, *]; (try (all_goals omega)))

set_option maxHeartbeats 2000000 in
theorem rvright_1 (f : Fa) (i off : Int)  (w : World) : Calls Try.prog 13 #[.agg #[.int .u8 1, .int .u64 (N f.t.v), .int .u64 (N f.t.m), .int .u64 (N f.s.lo), .int .u64 (N f.s.hi), .int .i64 i, .int .i64 off]] w fun e w' => e = .returned (.bool (Vl.right ⟨1, f, i, off⟩)) ∧ Below w.heap.size w w' := by
  cases hi : decide (0 ≤ i) <;> cases ho : decide (-1048576 ≤ off)
  all_goals
    go_enter Try.func13, Try.ntmps13
    go_wp2_with (first | (go_at_call 29; (with_reducible refine (rfright_c' _ _ _ _ _).mono ?_); rintro e w1 ⟨rfl, hb1⟩; obtain ⟨hc1, hf1, hz1⟩ := bcell hb1; (try simp only [World.size_alloc, World.size_setCell, World.size_drew] at hc1 hf1 hz1)))
    all_goals (go_ret; refine ⟨congrArg Ending.returned (congrArg Value.bool ?_), (by repeat' (first | (with_reducible exact Below.refl _ _) | (with_reducible assumption) | (with_reducible refine Below.alloc ?_ ?_ _) | (with_reducible refine Below.setCell ?_ ?_ _) | (with_reducible refine Below.drew ?_) | (with_reducible refine below_dn ?_ _) | (with_reducible refine Below.trans ?_ (Below.mono (by assumption) ?_)) | go_size))⟩; (try rw [Bool.eq_iff_iff]); simp only [decide_eq_false_iff_not, decide_eq_true_eq] at hi ho; simp [Vl.right, Vl.reach, Vl.isZ, *]; (try (all_goals omega)))

set_option maxHeartbeats 2000000 in
theorem rvright_2 (f : Fa) (i off : Int)  (w : World) : Calls Try.prog 13 #[.agg #[.int .u8 2, .int .u64 (N f.t.v), .int .u64 (N f.t.m), .int .u64 (N f.s.lo), .int .u64 (N f.s.hi), .int .i64 i, .int .i64 off]] w fun e w' => e = .returned (.bool (Vl.right ⟨2, f, i, off⟩)) ∧ Below w.heap.size w w' := by
  cases hi : decide (0 ≤ i) <;> cases ho : decide (-1048576 ≤ off)
  all_goals
    go_enter Try.func13, Try.ntmps13
    go_wp2_with (first | (go_at_call 29; (with_reducible refine (rfright_c' _ _ _ _ _).mono ?_); rintro e w1 ⟨rfl, hb1⟩; obtain ⟨hc1, hf1, hz1⟩ := bcell hb1; (try simp only [World.size_alloc, World.size_setCell, World.size_drew] at hc1 hf1 hz1)))
    all_goals (go_ret; refine ⟨congrArg Ending.returned (congrArg Value.bool ?_), (by repeat' (first | (with_reducible exact Below.refl _ _) | (with_reducible assumption) | (with_reducible refine Below.alloc ?_ ?_ _) | (with_reducible refine Below.setCell ?_ ?_ _) | (with_reducible refine Below.drew ?_) | (with_reducible refine below_dn ?_ _) | (with_reducible refine Below.trans ?_ (Below.mono (by assumption) ?_)) | go_size))⟩; (try rw [Bool.eq_iff_iff]); simp only [decide_eq_false_iff_not, decide_eq_true_eq] at hi ho; simp [Vl.right, Vl.reach, Vl.isZ, *]; (try (all_goals omega)))

set_option maxHeartbeats 2000000 in
theorem rvright_3 (f : Fa) (i off : Int)  (w : World) : Calls Try.prog 13 #[.agg #[.int .u8 3, .int .u64 (N f.t.v), .int .u64 (N f.t.m), .int .u64 (N f.s.lo), .int .u64 (N f.s.hi), .int .i64 i, .int .i64 off]] w fun e w' => e = .returned (.bool (Vl.right ⟨3, f, i, off⟩)) ∧ Below w.heap.size w w' := by
  cases hi : decide (0 ≤ i) <;> cases ho : decide (-1048576 ≤ off)
  all_goals
    go_enter Try.func13, Try.ntmps13
    go_wp2_with (first | (go_at_call 29; (with_reducible refine (rfright_c' _ _ _ _ _).mono ?_); rintro e w1 ⟨rfl, hb1⟩; obtain ⟨hc1, hf1, hz1⟩ := bcell hb1; (try simp only [World.size_alloc, World.size_setCell, World.size_drew] at hc1 hf1 hz1)))
    all_goals (go_ret; refine ⟨congrArg Ending.returned (congrArg Value.bool ?_), (by repeat' (first | (with_reducible exact Below.refl _ _) | (with_reducible assumption) | (with_reducible refine Below.alloc ?_ ?_ _) | (with_reducible refine Below.setCell ?_ ?_ _) | (with_reducible refine Below.drew ?_) | (with_reducible refine below_dn ?_ _) | (with_reducible refine Below.trans ?_ (Below.mono (by assumption) ?_)) | go_size))⟩; (try rw [Bool.eq_iff_iff]); simp only [decide_eq_false_iff_not, decide_eq_true_eq] at hi ho; simp [Vl.right, Vl.reach, Vl.isZ, *]; (try (all_goals omega)))

set_option maxHeartbeats 2000000 in
theorem rvright_4 (f : Fa) (i off : Int)  (w : World) : Calls Try.prog 13 #[.agg #[.int .u8 4, .int .u64 (N f.t.v), .int .u64 (N f.t.m), .int .u64 (N f.s.lo), .int .u64 (N f.s.hi), .int .i64 i, .int .i64 off]] w fun e w' => e = .returned (.bool (Vl.right ⟨4, f, i, off⟩)) ∧ Below w.heap.size w w' := by
  cases hi : decide (0 ≤ i) <;> cases ho : decide (-1048576 ≤ off)
  all_goals
    go_enter Try.func13, Try.ntmps13
    go_wp2_with (first | (go_at_call 29; (with_reducible refine (rfright_c' _ _ _ _ _).mono ?_); rintro e w1 ⟨rfl, hb1⟩; obtain ⟨hc1, hf1, hz1⟩ := bcell hb1; (try simp only [World.size_alloc, World.size_setCell, World.size_drew] at hc1 hf1 hz1)))
    all_goals (go_ret; refine ⟨congrArg Ending.returned (congrArg Value.bool ?_), (by repeat' (first | (with_reducible exact Below.refl _ _) | (with_reducible assumption) | (with_reducible refine Below.alloc ?_ ?_ _) | (with_reducible refine Below.setCell ?_ ?_ _) | (with_reducible refine Below.drew ?_) | (with_reducible refine below_dn ?_ _) | (with_reducible refine Below.trans ?_ (Below.mono (by assumption) ?_)) | go_size))⟩; (try rw [Bool.eq_iff_iff]); simp only [decide_eq_false_iff_not, decide_eq_true_eq] at hi ho; simp [Vl.right, Vl.reach, Vl.isZ, *]; (try (all_goals omega)))

set_option maxHeartbeats 2000000 in
theorem rvright_5 (f : Fa) (i off : Int)  (w : World) : Calls Try.prog 13 #[.agg #[.int .u8 5, .int .u64 (N f.t.v), .int .u64 (N f.t.m), .int .u64 (N f.s.lo), .int .u64 (N f.s.hi), .int .i64 i, .int .i64 off]] w fun e w' => e = .returned (.bool (Vl.right ⟨5, f, i, off⟩)) ∧ Below w.heap.size w w' := by
  cases hi : decide (0 ≤ i) <;> cases ho : decide (-1048576 ≤ off)
  all_goals
    go_enter Try.func13, Try.ntmps13
    go_wp2_with (first | (go_at_call 29; (with_reducible refine (rfright_c' _ _ _ _ _).mono ?_); rintro e w1 ⟨rfl, hb1⟩; obtain ⟨hc1, hf1, hz1⟩ := bcell hb1; (try simp only [World.size_alloc, World.size_setCell, World.size_drew] at hc1 hf1 hz1)))
    all_goals (go_ret; refine ⟨congrArg Ending.returned (congrArg Value.bool ?_), (by repeat' (first | (with_reducible exact Below.refl _ _) | (with_reducible assumption) | (with_reducible refine Below.alloc ?_ ?_ _) | (with_reducible refine Below.setCell ?_ ?_ _) | (with_reducible refine Below.drew ?_) | (with_reducible refine below_dn ?_ _) | (with_reducible refine Below.trans ?_ (Below.mono (by assumption) ?_)) | go_size))⟩; (try rw [Bool.eq_iff_iff]); simp only [decide_eq_false_iff_not, decide_eq_true_eq] at hi ho; simp [Vl.right, Vl.reach, Vl.isZ, *]; (try (all_goals omega)))

set_option maxHeartbeats 2000000 in
theorem rvright_6 (f : Fa) (i off : Int)  (w : World) : Calls Try.prog 13 #[.agg #[.int .u8 6, .int .u64 (N f.t.v), .int .u64 (N f.t.m), .int .u64 (N f.s.lo), .int .u64 (N f.s.hi), .int .i64 i, .int .i64 off]] w fun e w' => e = .returned (.bool (Vl.right ⟨6, f, i, off⟩)) ∧ Below w.heap.size w w' := by
  cases hi : decide (0 ≤ i) <;> cases ho : decide (-1048576 ≤ off)
  all_goals
    go_enter Try.func13, Try.ntmps13
    go_wp2_with (first | (go_at_call 29; (with_reducible refine (rfright_c' _ _ _ _ _).mono ?_); rintro e w1 ⟨rfl, hb1⟩; obtain ⟨hc1, hf1, hz1⟩ := bcell hb1; (try simp only [World.size_alloc, World.size_setCell, World.size_drew] at hc1 hf1 hz1)))
    all_goals (go_ret; refine ⟨congrArg Ending.returned (congrArg Value.bool ?_), (by repeat' (first | (with_reducible exact Below.refl _ _) | (with_reducible assumption) | (with_reducible refine Below.alloc ?_ ?_ _) | (with_reducible refine Below.setCell ?_ ?_ _) | (with_reducible refine Below.drew ?_) | (with_reducible refine below_dn ?_ _) | (with_reducible refine Below.trans ?_ (Below.mono (by assumption) ?_)) | go_size))⟩; (try rw [Bool.eq_iff_iff]); simp only [decide_eq_false_iff_not, decide_eq_true_eq] at hi ho; simp [Vl.right, Vl.reach, Vl.isZ, *]; (try (all_goals omega)))

set_option maxHeartbeats 2000000 in
theorem rvright_no (k : Int) (f : Fa) (i off : Int) (e0 : ¬ k = 0) (e1 : ¬ k = 1) (e2 : ¬ k = 2) (e3 : ¬ k = 3) (e4 : ¬ k = 4) (e5 : ¬ k = 5) (e6 : ¬ k = 6) (w : World) : Calls Try.prog 13 #[.agg #[.int .u8 k, .int .u64 (N f.t.v), .int .u64 (N f.t.m), .int .u64 (N f.s.lo), .int .u64 (N f.s.hi), .int .i64 i, .int .i64 off]] w fun e w' => e = .returned (.bool (Vl.right ⟨k, f, i, off⟩)) ∧ Below w.heap.size w w' := by
  cases hi : decide (0 ≤ i) <;> cases ho : decide (-1048576 ≤ off)
  all_goals
    go_enter Try.func13, Try.ntmps13
    go_wp2_with (first | (go_at_call 29; (with_reducible refine (rfright_c' _ _ _ _ _).mono ?_); rintro e w1 ⟨rfl, hb1⟩; obtain ⟨hc1, hf1, hz1⟩ := bcell hb1; (try simp only [World.size_alloc, World.size_setCell, World.size_drew] at hc1 hf1 hz1)))
    all_goals (go_ret; refine ⟨congrArg Ending.returned (congrArg Value.bool ?_), (by repeat' (first | (with_reducible exact Below.refl _ _) | (with_reducible assumption) | (with_reducible refine Below.alloc ?_ ?_ _) | (with_reducible refine Below.setCell ?_ ?_ _) | (with_reducible refine Below.drew ?_) | (with_reducible refine below_dn ?_ _) | (with_reducible refine Below.trans ?_ (Below.mono (by assumption) ?_)) | go_size))⟩; (try rw [Bool.eq_iff_iff]); simp only [decide_eq_false_iff_not, decide_eq_true_eq] at hi ho; simp [Vl.right, Vl.reach, Vl.isZ, *]; (try (all_goals omega)))

theorem rvright_c (v : Vl) (w : World) : Calls Try.prog 13 #[.agg #[.int .u8 v.k, .int .u64 (N v.f.t.v), .int .u64 (N v.f.t.m), .int .u64 (N v.f.s.lo), .int .u64 (N v.f.s.hi), .int .i64 v.i, .int .i64 v.off]] w fun e w' => e = .returned (.bool (Vl.right v)) ∧ Below w.heap.size w w' := by
  obtain ⟨k, f, i, off⟩ := v
  by_cases e0 : k = 0
  · subst e0; exact rvright_0 f i off w
  by_cases e1 : k = 1
  · subst e1; exact rvright_1 f i off w
  by_cases e2 : k = 2
  · subst e2; exact rvright_2 f i off w
  by_cases e3 : k = 3
  · subst e3; exact rvright_3 f i off w
  by_cases e4 : k = 4
  · subst e4; exact rvright_4 f i off w
  by_cases e5 : k = 5
  · subst e5; exact rvright_5 f i off w
  by_cases e6 : k = 6
  · subst e6; exact rvright_6 f i off w
  exact rvright_no k f i off e0 e1 e2 e3 e4 e5 e6 w

theorem rvright_c' (k0 : Int) (x0 y0 z0 u0 : BitVec 64) (i0 o0 : Int) (w : World) : Calls Try.prog 13 #[.agg #[.int .u8 k0, .int .u64 (N x0), .int .u64 (N y0), .int .u64 (N z0), .int .u64 (N u0), .int .i64 i0, .int .i64 o0]] w fun e w' => e = .returned (.bool (Vl.right (⟨k0, ⟨⟨x0, y0⟩, ⟨z0, u0⟩⟩, i0, o0⟩ : Vl))) ∧ Below w.heap.size w w' := by
  exact rvright_c (⟨k0, ⟨⟨x0, y0⟩, ⟨z0, u0⟩⟩, i0, o0⟩ : Vl) w

end Hk
