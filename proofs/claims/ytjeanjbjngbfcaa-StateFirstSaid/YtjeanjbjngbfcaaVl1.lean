/- Package val: reach, Right; old memory is as it was. No condition but those in each statement. -/
import Derived.Test.YtjeanjbjngbfcaaProg
import Derived.Test.YtjeanjbjngbfcaaGp
import Derived.Test.YtjeanjbjngbfcaaGv
import Derived.Test.YtjeanjbjngbfcaaGm
import Derived.Test.YtjeanjbjngbfcaaGl
import Derived.Deep.DeepCutAuto
namespace Hk
open Go Go.RowKit Go.Proofs
set_option linter.unusedSimpArgs false
set_option linter.unusedVariables false
set_option maxRecDepth 100000
attribute [go_sem] Tn.eta Sp.eta Fa.eta Vl.eta
theorem reach_c (o : Int) (w : World) : Calls Try.prog 42 #[.int .i64 o] w fun e w' => e = .returned (.bool (Vl.reach o)) ∧ Below w.heap.size w w' := by
  cases h1 : decide (-1048576 ≤ o) <;> cases h2 : decide (o ≤ 1048576)
  all_goals
    go_enter Try.func42, Try.ntmps42
    go_wp2
    go_ret
    exact ⟨by simp [Vl.reach, *], (by repeat' (first | (with_reducible exact Below.refl _ _) | (with_reducible assumption) | (with_reducible refine Below.alloc ?_ ?_ _) | (with_reducible refine Below.setCell ?_ ?_ _) | (with_reducible refine Below.drew ?_) | (with_reducible refine below_dn ?_ _) | (with_reducible refine Below.trans ?_ (Below.mono (by assumption) ?_)) | go_size))⟩

def VlC (v : Vl) (w : World) (w' : World) : Prop := w'.cell? ⟨w.heap.size, 0, none⟩ = some (.int .u8 v.k) ∧ w'.cell? ⟨w.heap.size, 1, none⟩ = some (.int .u64 (N v.f.t.v)) ∧ w'.cell? ⟨w.heap.size, 2, none⟩ = some (.int .u64 (N v.f.t.m)) ∧ w'.cell? ⟨w.heap.size, 3, none⟩ = some (.int .u64 (N v.f.s.lo)) ∧ w'.cell? ⟨w.heap.size, 4, none⟩ = some (.int .u64 (N v.f.s.hi)) ∧ w'.cell? ⟨w.heap.size, 5, none⟩ = some (.int .i64 v.i) ∧ w'.cell? ⟨w.heap.size, 6, none⟩ = some (.int .i64 v.off) ∧ Below w.heap.size w w'
theorem VlC_keep {v : Vl} {w : World} (w' w1 : World) (h : VlC v w w') (hb : Below w'.heap.size w' w1) : VlC v w w1 := by
  obtain ⟨k0, k1, k2, k3, k4, k5, k6, k7⟩ := h
  exact ⟨cell_keep hb k0, cell_keep hb k1, cell_keep hb k2, cell_keep hb k3, cell_keep hb k4, cell_keep hb k5, cell_keep hb k6, below_next k7 hb⟩

theorem vright_a (v : Vl) (h1 : decide (v.i < 0) = true) (w : World) : Calls Try.prog 28 #[.agg #[.int .u8 v.k, .int .u64 (N v.f.t.v), .int .u64 (N v.f.t.m), .int .u64 (N v.f.s.lo), .int .u64 (N v.f.s.hi), .int .i64 v.i, .int .i64 v.off]] w fun e w' => e = .returned (.bool (Vl.right v)) ∧ Below w.heap.size w w' := by
  go_enter Try.func28, Try.ntmps28
  go_wp2_with (first | (go_at_call 42; (with_reducible refine (reach_c _ _).mono ?_); rintro e w1 ⟨rfl, hb1⟩; obtain ⟨hc1, hf1, hz1⟩ := bcell hb1; (try simp only [World.size_alloc, World.size_setCell, World.size_drew] at hc1 hf1 hz1)))
  (go_ret; exact ⟨by simp [Vl.right, (show Vl.reach 0 = true from rfl), *], (by repeat' (first | (with_reducible exact Below.refl _ _) | (with_reducible assumption) | (with_reducible refine Below.alloc ?_ ?_ _) | (with_reducible refine Below.setCell ?_ ?_ _) | (with_reducible refine Below.drew ?_) | (with_reducible refine below_dn ?_ _) | (with_reducible refine Below.trans ?_ (Below.mono (by assumption) ?_)) | go_size))⟩)

theorem vright_b (v : Vl) (h1 : decide (v.i < 0) = false) (h2 : decide (8 ≤ v.i) = true) (w : World) : Calls Try.prog 28 #[.agg #[.int .u8 v.k, .int .u64 (N v.f.t.v), .int .u64 (N v.f.t.m), .int .u64 (N v.f.s.lo), .int .u64 (N v.f.s.hi), .int .i64 v.i, .int .i64 v.off]] w fun e w' => e = .returned (.bool (Vl.right v)) ∧ Below w.heap.size w w' := by
  go_enter Try.func28, Try.ntmps28
  go_wp2_with (first | (go_at_call 42; (with_reducible refine (reach_c _ _).mono ?_); rintro e w1 ⟨rfl, hb1⟩; obtain ⟨hc1, hf1, hz1⟩ := bcell hb1; (try simp only [World.size_alloc, World.size_setCell, World.size_drew] at hc1 hf1 hz1)))
  (go_ret; exact ⟨by simp [Vl.right, (show Vl.reach 0 = true from rfl), *], (by repeat' (first | (with_reducible exact Below.refl _ _) | (with_reducible assumption) | (with_reducible refine Below.alloc ?_ ?_ _) | (with_reducible refine Below.setCell ?_ ?_ _) | (with_reducible refine Below.drew ?_) | (with_reducible refine below_dn ?_ _) | (with_reducible refine Below.trans ?_ (Below.mono (by assumption) ?_)) | go_size))⟩)

theorem vright_cc (v : Vl) (h1 : decide (v.i < 0) = false) (h2 : decide (8 ≤ v.i) = false) (h3 : Vl.reach v.off = false) (w : World) : Calls Try.prog 28 #[.agg #[.int .u8 v.k, .int .u64 (N v.f.t.v), .int .u64 (N v.f.t.m), .int .u64 (N v.f.s.lo), .int .u64 (N v.f.s.hi), .int .i64 v.i, .int .i64 v.off]] w fun e w' => e = .returned (.bool (Vl.right v)) ∧ Below w.heap.size w w' := by
  go_enter Try.func28, Try.ntmps28
  go_wp2_with (first | (go_at_call 42; (with_reducible refine (reach_c _ _).mono ?_); rintro e w1 ⟨rfl, hb1⟩; obtain ⟨hc1, hf1, hz1⟩ := bcell hb1; (try simp only [World.size_alloc, World.size_setCell, World.size_drew] at hc1 hf1 hz1)))
  (go_ret; exact ⟨by simp [Vl.right, (show Vl.reach 0 = true from rfl), *], (by repeat' (first | (with_reducible exact Below.refl _ _) | (with_reducible assumption) | (with_reducible refine Below.alloc ?_ ?_ _) | (with_reducible refine Below.setCell ?_ ?_ _) | (with_reducible refine Below.drew ?_) | (with_reducible refine below_dn ?_ _) | (with_reducible refine Below.trans ?_ (Below.mono (by assumption) ?_)) | go_size))⟩)

set_option maxHeartbeats 4000000 in
theorem vright_in (v : Vl) (h1 : decide (v.i < 0) = false) (h2 : decide (8 ≤ v.i) = false) (h3 : Vl.reach v.off = true) (w : World) : Calls Try.prog 28 #[.agg #[.int .u8 v.k, .int .u64 (N v.f.t.v), .int .u64 (N v.f.t.m), .int .u64 (N v.f.s.lo), .int .u64 (N v.f.s.hi), .int .i64 v.i, .int .i64 v.off]] w fun e w' => e = .returned (.bool (Vl.right v)) ∧ Below w.heap.size w w' := by
  go_enter Try.func28, Try.ntmps28
  go_upto_region 3 with (first | (go_at_call 42; (with_reducible refine (reach_c _ _).mono ?_); rintro e w1 ⟨rfl, hb1⟩; obtain ⟨hc1, hf1, hz1⟩ := bcell hb1; (try simp only [World.size_alloc, World.size_setCell, World.size_drew] at hc1 hf1 hz1)))
  go_cut [0, 3] (fun s0 s wx => s0 = .agg #[.int .u8 v.k, .int .u64 (N v.f.t.v), .int .u64 (N v.f.t.m), .int .u64 (N v.f.s.lo), .int .u64 (N v.f.s.hi), .int .i64 v.i, .int .i64 v.off] ∧ s = .bool (Vl.isZ v.f) ∧ VlC v w wx)
  case first =>
    go_wp2_with fail
    all_goals (go_meet; refine ⟨by simp [*], by simp [Vl.isZ, *], ⟨?_, ?_, ?_, ?_, ?_, ?_, ?_, (by repeat' (first | (with_reducible exact Below.refl _ _) | (with_reducible assumption) | (with_reducible refine Below.alloc ?_ ?_ _) | (with_reducible refine Below.setCell ?_ ?_ _) | (with_reducible refine Below.drew ?_) | (with_reducible refine below_dn ?_ _) | (with_reducible refine Below.trans ?_ (Below.mono (by assumption) ?_)) | go_size))⟩⟩ <;> (simp [*, go_sem, ↓IntWalk.iteOmega]; done))
  case rest =>
    obtain ⟨rfl, rfl, hC⟩ := hcut
    obtain ⟨k0, k1, k2, k3, k4, k5, k6, k7⟩ := hC
    have z0 := cell_lt k0
    generalize hz : Vl.isZ v.f = z
    by_cases e0 : v.k = 0
    · cases z <;> by_cases i0 : v.i = 0 <;> by_cases o0 : v.off = 0 <;> (go_wp2; (go_ret; exact ⟨by simp [Vl.right, (show Vl.reach 0 = true from rfl), *], (by repeat' (first | (with_reducible exact Below.refl _ _) | (with_reducible assumption) | (with_reducible refine Below.alloc ?_ ?_ _) | (with_reducible refine Below.setCell ?_ ?_ _) | (with_reducible refine Below.drew ?_) | (with_reducible refine below_dn ?_ _) | (with_reducible refine Below.trans ?_ (Below.mono (by assumption) ?_)) | go_size))⟩))
    by_cases e1 : v.k = 1
    · by_cases i0 : v.i = 0 <;> by_cases o0 : v.off = 0 <;> (go_wp2_with (first | (go_at_call 43; (with_reducible refine (fright_c' _ _ _ _ _).mono ?_); rintro e w1 ⟨rfl, hb1⟩; obtain ⟨hc1, hf1, hz1⟩ := bcell hb1; (try simp only [World.size_alloc, World.size_setCell, World.size_drew] at hc1 hf1 hz1))); (go_ret; exact ⟨by simp [Vl.right, (show Vl.reach 0 = true from rfl), *], (by repeat' (first | (with_reducible exact Below.refl _ _) | (with_reducible assumption) | (with_reducible refine Below.alloc ?_ ?_ _) | (with_reducible refine Below.setCell ?_ ?_ _) | (with_reducible refine Below.drew ?_) | (with_reducible refine below_dn ?_ _) | (with_reducible refine Below.trans ?_ (Below.mono (by assumption) ?_)) | go_size))⟩))
    by_cases e2 : v.k = 2
    · cases z <;> by_cases i0 : v.i = 0 <;> (go_wp2; (go_ret; exact ⟨by simp [Vl.right, (show Vl.reach 0 = true from rfl), *], (by repeat' (first | (with_reducible exact Below.refl _ _) | (with_reducible assumption) | (with_reducible refine Below.alloc ?_ ?_ _) | (with_reducible refine Below.setCell ?_ ?_ _) | (with_reducible refine Below.drew ?_) | (with_reducible refine below_dn ?_ _) | (with_reducible refine Below.trans ?_ (Below.mono (by assumption) ?_)) | go_size))⟩))
    by_cases e3 : v.k = 3
    · cases z <;> by_cases i0 : v.i = 0 <;> (go_wp2; (go_ret; exact ⟨by simp [Vl.right, (show Vl.reach 0 = true from rfl), *], (by repeat' (first | (with_reducible exact Below.refl _ _) | (with_reducible assumption) | (with_reducible refine Below.alloc ?_ ?_ _) | (with_reducible refine Below.setCell ?_ ?_ _) | (with_reducible refine Below.drew ?_) | (with_reducible refine below_dn ?_ _) | (with_reducible refine Below.trans ?_ (Below.mono (by assumption) ?_)) | go_size))⟩))
    by_cases e4 : v.k = 4
    · cases z <;> by_cases o0 : v.off = 0 <;> (go_wp2; (go_ret; exact ⟨by simp [Vl.right, (show Vl.reach 0 = true from rfl), *], (by repeat' (first | (with_reducible exact Below.refl _ _) | (with_reducible assumption) | (with_reducible refine Below.alloc ?_ ?_ _) | (with_reducible refine Below.setCell ?_ ?_ _) | (with_reducible refine Below.drew ?_) | (with_reducible refine below_dn ?_ _) | (with_reducible refine Below.trans ?_ (Below.mono (by assumption) ?_)) | go_size))⟩))
    by_cases e6 : v.k = 6
    · cases z <;> by_cases o0 : v.off = 0 <;> (go_wp2; (go_ret; exact ⟨by simp [Vl.right, (show Vl.reach 0 = true from rfl), *], (by repeat' (first | (with_reducible exact Below.refl _ _) | (with_reducible assumption) | (with_reducible refine Below.alloc ?_ ?_ _) | (with_reducible refine Below.setCell ?_ ?_ _) | (with_reducible refine Below.drew ?_) | (with_reducible refine below_dn ?_ _) | (with_reducible refine Below.trans ?_ (Below.mono (by assumption) ?_)) | go_size))⟩))
    by_cases e5 : v.k = 5
    · cases z <;> (go_wp2; (go_ret; exact ⟨by simp [Vl.right, (show Vl.reach 0 = true from rfl), *], (by repeat' (first | (with_reducible exact Below.refl _ _) | (with_reducible assumption) | (with_reducible refine Below.alloc ?_ ?_ _) | (with_reducible refine Below.setCell ?_ ?_ _) | (with_reducible refine Below.drew ?_) | (with_reducible refine below_dn ?_ _) | (with_reducible refine Below.trans ?_ (Below.mono (by assumption) ?_)) | go_size))⟩))
    · go_wp2
      (go_ret; exact ⟨by simp [Vl.right, (show Vl.reach 0 = true from rfl), *], (by repeat' (first | (with_reducible exact Below.refl _ _) | (with_reducible assumption) | (with_reducible refine Below.alloc ?_ ?_ _) | (with_reducible refine Below.setCell ?_ ?_ _) | (with_reducible refine Below.drew ?_) | (with_reducible refine below_dn ?_ _) | (with_reducible refine Below.trans ?_ (Below.mono (by assumption) ?_)) | go_size))⟩)

theorem vright_c (v : Vl) (w : World) : Calls Try.prog 28 #[.agg #[.int .u8 v.k, .int .u64 (N v.f.t.v), .int .u64 (N v.f.t.m), .int .u64 (N v.f.s.lo), .int .u64 (N v.f.s.hi), .int .i64 v.i, .int .i64 v.off]] w fun e w' => e = .returned (.bool (Vl.right v)) ∧ Below w.heap.size w w' := by
  cases h1 : decide (v.i < 0)
  · cases h2 : decide (8 ≤ v.i)
    · cases h3 : Vl.reach v.off
      · exact vright_cc v h1 h2 h3 w
      · exact vright_in v h1 h2 h3 w
    · exact vright_b v h1 h2 w
  · exact vright_a v h1 w

theorem vright_c' (k0 : Int) (x0 y0 z0 u0 : BitVec 64) (i0 o0 : Int) (w : World) : Calls Try.prog 28 #[.agg #[.int .u8 k0, .int .u64 (N x0), .int .u64 (N y0), .int .u64 (N z0), .int .u64 (N u0), .int .i64 i0, .int .i64 o0]] w fun e w' => e = .returned (.bool (Vl.right (⟨k0, ⟨⟨x0, y0⟩, ⟨z0, u0⟩⟩, i0, o0⟩ : Vl))) ∧ Below w.heap.size w w' := by
  exact vright_c (⟨k0, ⟨⟨x0, y0⟩, ⟨z0, u0⟩⟩, i0, o0⟩ : Vl) w

end Hk
