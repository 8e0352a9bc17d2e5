/- Package val: Num, Pointer, Is; old memory is as it was. No condition but those in each statement. -/
import Derived.Test.YtnngchpbblehfaaProg
import Derived.Test.YtnngchpbblehfaaGp
import Derived.Test.YtnngchpbblehfaaVl
import Derived.Test.YtnngchpbblehfaaVl1
import Derived.Test.YtnngchpbblehfaaVl2
import Derived.Test.YtnngchpbblehfaaGm
import Derived.Test.YtnngchpbblehfaaFa5
namespace Hk
open Go Go.RowKit Go.Proofs
set_option linter.unusedSimpArgs false
set_option linter.unusedVariables false
set_option maxRecDepth 100000
attribute [go_sem] Tn.eta Sp.eta Fa.eta Vl.eta
theorem vnum_c (f : Fa) (w : World) : Calls Try.prog 14 #[.agg #[.int .u64 (N f.t.v), .int .u64 (N f.t.m), .int .u64 (N f.s.lo), .int .u64 (N f.s.hi)]] w fun e w' => e = .returned (.agg #[.int .u8 (Vl.num f).k, .int .u64 (N (Vl.num f).f.t.v), .int .u64 (N (Vl.num f).f.t.m), .int .u64 (N (Vl.num f).f.s.lo), .int .u64 (N (Vl.num f).f.s.hi), .int .i64 (Vl.num f).i, .int .i64 (Vl.num f).off]) ∧ Below w.heap.size w w' := by
  cases h1 : Fa.ok f
  all_goals
    go_enter Try.func14, Try.ntmps14
    go_wp2_with (first | (go_at_call 28; (with_reducible refine (fright_c' _ _ _ _ _).mono ?_); rintro e w1 ⟨rfl, hb1⟩; obtain ⟨hc1, hf1, hz1⟩ := bcell hb1; (try simp only [World.size_alloc, World.size_setCell, World.size_drew] at hc1 hf1 hz1)))
    refine bodyPost_ret ?_ rfl ⟨rfl, (by repeat' (first | (with_reducible exact Below.refl _ _) | (with_reducible assumption) | (with_reducible refine Below.alloc ?_ ?_ _) | (with_reducible refine Below.setCell ?_ ?_ _) | (with_reducible refine Below.drew ?_) | (with_reducible refine below_dn ?_ _) | (with_reducible refine Below.trans ?_ (Below.mono (by assumption) ?_)) | go_size))⟩
    simp only [results, Try.results14]; simp [*, go_sem, ↓IntWalk.iteOmega, Vl.num, Vl.zero, Vl.join, Vl.move, Fa.zero]; try (first | rfl | exact ⟨rfl, rfl⟩)

theorem vnum_c' (x0 y0 z0 u0 : BitVec 64) (w : World) : Calls Try.prog 14 #[.agg #[.int .u64 (N x0), .int .u64 (N y0), .int .u64 (N z0), .int .u64 (N u0)]] w fun e w' => e = .returned (.agg #[.int .u8 (Vl.num (⟨⟨x0, y0⟩, ⟨z0, u0⟩⟩ : Fa)).k, .int .u64 (N (Vl.num (⟨⟨x0, y0⟩, ⟨z0, u0⟩⟩ : Fa)).f.t.v), .int .u64 (N (Vl.num (⟨⟨x0, y0⟩, ⟨z0, u0⟩⟩ : Fa)).f.t.m), .int .u64 (N (Vl.num (⟨⟨x0, y0⟩, ⟨z0, u0⟩⟩ : Fa)).f.s.lo), .int .u64 (N (Vl.num (⟨⟨x0, y0⟩, ⟨z0, u0⟩⟩ : Fa)).f.s.hi), .int .i64 (Vl.num (⟨⟨x0, y0⟩, ⟨z0, u0⟩⟩ : Fa)).i, .int .i64 (Vl.num (⟨⟨x0, y0⟩, ⟨z0, u0⟩⟩ : Fa)).off]) ∧ Below w.heap.size w w' := by
  exact vnum_c (⟨⟨x0, y0⟩, ⟨z0, u0⟩⟩ : Fa) w

theorem vptr_2 (f : Fa) (i off : Int) (w : World) : Calls Try.prog 16 #[.agg #[.int .u8 2, .int .u64 (N f.t.v), .int .u64 (N f.t.m), .int .u64 (N f.s.lo), .int .u64 (N f.s.hi), .int .i64 i, .int .i64 off]] w fun e w' => e = .returned (.bool (Vl.right ⟨2, f, i, off⟩)) ∧ Below w.heap.size w w' := by
  go_enter Try.func16, Try.ntmps16
  go_wp2_with (first | (go_at_call 12; (with_reducible refine (vright_c' _ _ _ _ _ _ _ _).mono ?_); rintro e w1 ⟨rfl, hb1⟩; obtain ⟨hc1, hf1, hz1⟩ := bcell hb1; (try simp only [World.size_alloc, World.size_setCell, World.size_drew] at hc1 hf1 hz1)))
  go_ret
  exact ⟨rfl, (by repeat' (first | (with_reducible exact Below.refl _ _) | (with_reducible assumption) | (with_reducible refine Below.alloc ?_ ?_ _) | (with_reducible refine Below.setCell ?_ ?_ _) | (with_reducible refine Below.drew ?_) | (with_reducible refine below_dn ?_ _) | (with_reducible refine Below.trans ?_ (Below.mono (by assumption) ?_)) | go_size))⟩

theorem vptr_3 (f : Fa) (i off : Int) (w : World) : Calls Try.prog 16 #[.agg #[.int .u8 3, .int .u64 (N f.t.v), .int .u64 (N f.t.m), .int .u64 (N f.s.lo), .int .u64 (N f.s.hi), .int .i64 i, .int .i64 off]] w fun e w' => e = .returned (.bool (Vl.right ⟨3, f, i, off⟩)) ∧ Below w.heap.size w w' := by
  go_enter Try.func16, Try.ntmps16
  go_wp2_with (first | (go_at_call 12; (with_reducible refine (vright_c' _ _ _ _ _ _ _ _).mono ?_); rintro e w1 ⟨rfl, hb1⟩; obtain ⟨hc1, hf1, hz1⟩ := bcell hb1; (try simp only [World.size_alloc, World.size_setCell, World.size_drew] at hc1 hf1 hz1)))
  go_ret
  exact ⟨rfl, (by repeat' (first | (with_reducible exact Below.refl _ _) | (with_reducible assumption) | (with_reducible refine Below.alloc ?_ ?_ _) | (with_reducible refine Below.setCell ?_ ?_ _) | (with_reducible refine Below.drew ?_) | (with_reducible refine below_dn ?_ _) | (with_reducible refine Below.trans ?_ (Below.mono (by assumption) ?_)) | go_size))⟩

theorem vptr_5 (f : Fa) (i off : Int) (w : World) : Calls Try.prog 16 #[.agg #[.int .u8 5, .int .u64 (N f.t.v), .int .u64 (N f.t.m), .int .u64 (N f.s.lo), .int .u64 (N f.s.hi), .int .i64 i, .int .i64 off]] w fun e w' => e = .returned (.bool (Vl.right ⟨5, f, i, off⟩)) ∧ Below w.heap.size w w' := by
  go_enter Try.func16, Try.ntmps16
  go_wp2_with (first | (go_at_call 12; (with_reducible refine (vright_c' _ _ _ _ _ _ _ _).mono ?_); rintro e w1 ⟨rfl, hb1⟩; obtain ⟨hc1, hf1, hz1⟩ := bcell hb1; (try simp only [World.size_alloc, World.size_setCell, World.size_drew] at hc1 hf1 hz1)))
  go_ret
  exact ⟨rfl, (by repeat' (first | (with_reducible exact Below.refl _ _) | (with_reducible assumption) | (with_reducible refine Below.alloc ?_ ?_ _) | (with_reducible refine Below.setCell ?_ ?_ _) | (with_reducible refine Below.drew ?_) | (with_reducible refine below_dn ?_ _) | (with_reducible refine Below.trans ?_ (Below.mono (by assumption) ?_)) | go_size))⟩

theorem vptr_no (k : Int) (f : Fa) (i off : Int) (e2 : ¬ k = 2) (e3 : ¬ k = 3) (e5 : ¬ k = 5) (w : World) : Calls Try.prog 16 #[.agg #[.int .u8 k, .int .u64 (N f.t.v), .int .u64 (N f.t.m), .int .u64 (N f.s.lo), .int .u64 (N f.s.hi), .int .i64 i, .int .i64 off]] w fun e w' => e = .returned (.bool false) ∧ Below w.heap.size w w' := by
  go_enter Try.func16, Try.ntmps16
  go_wp2_with (first | (go_at_call 12; (with_reducible refine (vright_c' _ _ _ _ _ _ _ _).mono ?_); rintro e w1 ⟨rfl, hb1⟩; obtain ⟨hc1, hf1, hz1⟩ := bcell hb1; (try simp only [World.size_alloc, World.size_setCell, World.size_drew] at hc1 hf1 hz1)))
  go_ret
  exact ⟨rfl, (by repeat' (first | (with_reducible exact Below.refl _ _) | (with_reducible assumption) | (with_reducible refine Below.alloc ?_ ?_ _) | (with_reducible refine Below.setCell ?_ ?_ _) | (with_reducible refine Below.drew ?_) | (with_reducible refine below_dn ?_ _) | (with_reducible refine Below.trans ?_ (Below.mono (by assumption) ?_)) | go_size))⟩

theorem vptr_c (v : Vl) (w : World) : Calls Try.prog 16 #[.agg #[.int .u8 v.k, .int .u64 (N v.f.t.v), .int .u64 (N v.f.t.m), .int .u64 (N v.f.s.lo), .int .u64 (N v.f.s.hi), .int .i64 v.i, .int .i64 v.off]] w fun e w' => e = .returned (.bool (Vl.ptr v)) ∧ Below w.heap.size w w' := by
  obtain ⟨k, f, i, off⟩ := v
  by_cases e2 : k = 2
  · subst e2; exact vptr_2 f i off w
  by_cases e3 : k = 3
  · subst e3; exact vptr_3 f i off w
  by_cases e5 : k = 5
  · subst e5; exact vptr_5 f i off w
  have e : Vl.ptr ⟨k, f, i, off⟩ = false := by simp [Vl.ptr, e2, e3, e5]
  rw [e]
  exact vptr_no k f i off e2 e3 e5 w

theorem vptr_c' (k0 : Int) (x0 y0 z0 u0 : BitVec 64) (i0 o0 : Int) (w : World) : Calls Try.prog 16 #[.agg #[.int .u8 k0, .int .u64 (N x0), .int .u64 (N y0), .int .u64 (N z0), .int .u64 (N u0), .int .i64 i0, .int .i64 o0]] w fun e w' => e = .returned (.bool (Vl.ptr (⟨k0, ⟨⟨x0, y0⟩, ⟨z0, u0⟩⟩, i0, o0⟩ : Vl))) ∧ Below w.heap.size w w' := by
  exact vptr_c (⟨k0, ⟨⟨x0, y0⟩, ⟨z0, u0⟩⟩, i0, o0⟩ : Vl) w

theorem vis_no (v : Vl) (n : BitVec 64) (set : Bool) (h : Vl.right v = false) (w : World) : Calls Try.prog 18 #[.agg #[.int .u8 v.k, .int .u64 (N v.f.t.v), .int .u64 (N v.f.t.m), .int .u64 (N v.f.s.lo), .int .u64 (N v.f.s.hi), .int .i64 v.i, .int .i64 v.off], .int .u64 (N n), .bool set] w fun e w' => e = .returned (.bool (Vl.is_ v n set)) ∧ Below w.heap.size w w' := by
  go_enter Try.func18, Try.ntmps18
  go_wp2_with (first | (go_at_call 12; (with_reducible refine (vright_c' _ _ _ _ _ _ _ _).mono ?_); rintro e w1 ⟨rfl, hb1⟩; obtain ⟨hc1, hf1, hz1⟩ := bcell hb1; (try simp only [World.size_alloc, World.size_setCell, World.size_drew] at hc1 hf1 hz1)) | (go_at_call 29; (with_reducible refine (fhas_c' _ _ _ _ _ _).mono ?_); rintro e w1 ⟨rfl, hb1⟩; obtain ⟨hc1, hf1, hz1⟩ := bcell hb1; (try simp only [World.size_alloc, World.size_setCell, World.size_drew] at hc1 hf1 hz1)) | (go_at_call 30; (with_reducible refine (at_c _ _ _).mono ?_); rintro e w1 ⟨rfl, hb1⟩; obtain ⟨hc1, hf1, hz1⟩ := bcell hb1; (try simp only [World.size_alloc, World.size_setCell, World.size_drew] at hc1 hf1 hz1)) | (go_at_call 31; (with_reducible refine (vin_c _ _ _ (by assumption) (by assumption) _).mono ?_); rintro e w1 ⟨rfl, hb1⟩; obtain ⟨hc1, hf1, hz1⟩ := bcell hb1))
  go_ret
  exact ⟨by simp [Vl.is_, *], (by repeat' (first | (with_reducible exact Below.refl _ _) | (with_reducible assumption) | (with_reducible refine Below.alloc ?_ ?_ _) | (with_reducible refine Below.setCell ?_ ?_ _) | (with_reducible refine Below.drew ?_) | (with_reducible refine below_dn ?_ _) | (with_reducible refine Below.trans ?_ (Below.mono (by assumption) ?_)) | go_size))⟩

theorem vis_un (v : Vl) (n : BitVec 64) (set : Bool) (h : Vl.right v = true) (e0 : ¬ v.k = 0) (hs : set = false) (w : World) : Calls Try.prog 18 #[.agg #[.int .u8 v.k, .int .u64 (N v.f.t.v), .int .u64 (N v.f.t.m), .int .u64 (N v.f.s.lo), .int .u64 (N v.f.s.hi), .int .i64 v.i, .int .i64 v.off], .int .u64 (N n), .bool set] w fun e w' => e = .returned (.bool (Vl.is_ v n set)) ∧ Below w.heap.size w w' := by
  go_enter Try.func18, Try.ntmps18
  go_wp2_with (first | (go_at_call 12; (with_reducible refine (vright_c' _ _ _ _ _ _ _ _).mono ?_); rintro e w1 ⟨rfl, hb1⟩; obtain ⟨hc1, hf1, hz1⟩ := bcell hb1; (try simp only [World.size_alloc, World.size_setCell, World.size_drew] at hc1 hf1 hz1)) | (go_at_call 29; (with_reducible refine (fhas_c' _ _ _ _ _ _).mono ?_); rintro e w1 ⟨rfl, hb1⟩; obtain ⟨hc1, hf1, hz1⟩ := bcell hb1; (try simp only [World.size_alloc, World.size_setCell, World.size_drew] at hc1 hf1 hz1)) | (go_at_call 30; (with_reducible refine (at_c _ _ _).mono ?_); rintro e w1 ⟨rfl, hb1⟩; obtain ⟨hc1, hf1, hz1⟩ := bcell hb1; (try simp only [World.size_alloc, World.size_setCell, World.size_drew] at hc1 hf1 hz1)) | (go_at_call 31; (with_reducible refine (vin_c _ _ _ (by assumption) (by assumption) _).mono ?_); rintro e w1 ⟨rfl, hb1⟩; obtain ⟨hc1, hf1, hz1⟩ := bcell hb1))
  go_ret
  exact ⟨by simp [Vl.is_, *], (by repeat' (first | (with_reducible exact Below.refl _ _) | (with_reducible assumption) | (with_reducible refine Below.alloc ?_ ?_ _) | (with_reducible refine Below.setCell ?_ ?_ _) | (with_reducible refine Below.drew ?_) | (with_reducible refine below_dn ?_ _) | (with_reducible refine Below.trans ?_ (Below.mono (by assumption) ?_)) | go_size))⟩

theorem vis_0 (f : Fa) (i off : Int) (n : BitVec 64) (set : Bool) (h : Vl.right ⟨0, f, i, off⟩ = true)  (w : World) : Calls Try.prog 18 #[.agg #[.int .u8 0, .int .u64 (N f.t.v), .int .u64 (N f.t.m), .int .u64 (N f.s.lo), .int .u64 (N f.s.hi), .int .i64 i, .int .i64 off], .int .u64 (N n), .bool set] w fun e w' => e = .returned (.bool (Vl.is_ ⟨0, f, i, off⟩ n set)) ∧ Below w.heap.size w w' := by
  go_enter Try.func18, Try.ntmps18
  go_wp2_with (first | (go_at_call 12; (with_reducible refine (vright_c' _ _ _ _ _ _ _ _).mono ?_); rintro e w1 ⟨rfl, hb1⟩; obtain ⟨hc1, hf1, hz1⟩ := bcell hb1; (try simp only [World.size_alloc, World.size_setCell, World.size_drew] at hc1 hf1 hz1)) | (go_at_call 29; (with_reducible refine (fhas_c' _ _ _ _ _ _).mono ?_); rintro e w1 ⟨rfl, hb1⟩; obtain ⟨hc1, hf1, hz1⟩ := bcell hb1; (try simp only [World.size_alloc, World.size_setCell, World.size_drew] at hc1 hf1 hz1)) | (go_at_call 30; (with_reducible refine (at_c _ _ _).mono ?_); rintro e w1 ⟨rfl, hb1⟩; obtain ⟨hc1, hf1, hz1⟩ := bcell hb1; (try simp only [World.size_alloc, World.size_setCell, World.size_drew] at hc1 hf1 hz1)) | (go_at_call 31; (with_reducible refine (vin_c _ _ _ (by assumption) (by assumption) _).mono ?_); rintro e w1 ⟨rfl, hb1⟩; obtain ⟨hc1, hf1, hz1⟩ := bcell hb1))
  go_ret
  exact ⟨by simp [Vl.is_, *], (by repeat' (first | (with_reducible exact Below.refl _ _) | (with_reducible assumption) | (with_reducible refine Below.alloc ?_ ?_ _) | (with_reducible refine Below.setCell ?_ ?_ _) | (with_reducible refine Below.drew ?_) | (with_reducible refine below_dn ?_ _) | (with_reducible refine Below.trans ?_ (Below.mono (by assumption) ?_)) | go_size))⟩

theorem vis_1 (f : Fa) (i off : Int) (n : BitVec 64) (set : Bool) (h : Vl.right ⟨1, f, i, off⟩ = true) (hs : set = true) (w : World) : Calls Try.prog 18 #[.agg #[.int .u8 1, .int .u64 (N f.t.v), .int .u64 (N f.t.m), .int .u64 (N f.s.lo), .int .u64 (N f.s.hi), .int .i64 i, .int .i64 off], .int .u64 (N n), .bool set] w fun e w' => e = .returned (.bool (Vl.is_ ⟨1, f, i, off⟩ n set)) ∧ Below w.heap.size w w' := by
  go_enter Try.func18, Try.ntmps18
  go_wp2_with (first | (go_at_call 12; (with_reducible refine (vright_c' _ _ _ _ _ _ _ _).mono ?_); rintro e w1 ⟨rfl, hb1⟩; obtain ⟨hc1, hf1, hz1⟩ := bcell hb1; (try simp only [World.size_alloc, World.size_setCell, World.size_drew] at hc1 hf1 hz1)) | (go_at_call 29; (with_reducible refine (fhas_c' _ _ _ _ _ _).mono ?_); rintro e w1 ⟨rfl, hb1⟩; obtain ⟨hc1, hf1, hz1⟩ := bcell hb1; (try simp only [World.size_alloc, World.size_setCell, World.size_drew] at hc1 hf1 hz1)) | (go_at_call 30; (with_reducible refine (at_c _ _ _).mono ?_); rintro e w1 ⟨rfl, hb1⟩; obtain ⟨hc1, hf1, hz1⟩ := bcell hb1; (try simp only [World.size_alloc, World.size_setCell, World.size_drew] at hc1 hf1 hz1)) | (go_at_call 31; (with_reducible refine (vin_c _ _ _ (by assumption) (by assumption) _).mono ?_); rintro e w1 ⟨rfl, hb1⟩; obtain ⟨hc1, hf1, hz1⟩ := bcell hb1))
  go_ret
  exact ⟨by simp [Vl.is_, *], (by repeat' (first | (with_reducible exact Below.refl _ _) | (with_reducible assumption) | (with_reducible refine Below.alloc ?_ ?_ _) | (with_reducible refine Below.setCell ?_ ?_ _) | (with_reducible refine Below.drew ?_) | (with_reducible refine below_dn ?_ _) | (with_reducible refine Below.trans ?_ (Below.mono (by assumption) ?_)) | go_size))⟩

theorem vis_2 (f : Fa) (i off : Int) (n : BitVec 64) (set : Bool) (h : Vl.right ⟨2, f, i, off⟩ = true) (hs : set = true) (w : World) : Calls Try.prog 18 #[.agg #[.int .u8 2, .int .u64 (N f.t.v), .int .u64 (N f.t.m), .int .u64 (N f.s.lo), .int .u64 (N f.s.hi), .int .i64 i, .int .i64 off], .int .u64 (N n), .bool set] w fun e w' => e = .returned (.bool (Vl.is_ ⟨2, f, i, off⟩ n set)) ∧ Below w.heap.size w w' := by
  go_enter Try.func18, Try.ntmps18
  go_wp2_with (first | (go_at_call 12; (with_reducible refine (vright_c' _ _ _ _ _ _ _ _).mono ?_); rintro e w1 ⟨rfl, hb1⟩; obtain ⟨hc1, hf1, hz1⟩ := bcell hb1; (try simp only [World.size_alloc, World.size_setCell, World.size_drew] at hc1 hf1 hz1)) | (go_at_call 29; (with_reducible refine (fhas_c' _ _ _ _ _ _).mono ?_); rintro e w1 ⟨rfl, hb1⟩; obtain ⟨hc1, hf1, hz1⟩ := bcell hb1; (try simp only [World.size_alloc, World.size_setCell, World.size_drew] at hc1 hf1 hz1)) | (go_at_call 30; (with_reducible refine (at_c _ _ _).mono ?_); rintro e w1 ⟨rfl, hb1⟩; obtain ⟨hc1, hf1, hz1⟩ := bcell hb1; (try simp only [World.size_alloc, World.size_setCell, World.size_drew] at hc1 hf1 hz1)) | (go_at_call 31; (with_reducible refine (vin_c _ _ _ (by assumption) (by assumption) _).mono ?_); rintro e w1 ⟨rfl, hb1⟩; obtain ⟨hc1, hf1, hz1⟩ := bcell hb1))
  go_ret
  exact ⟨by simp [Vl.is_, *], (by repeat' (first | (with_reducible exact Below.refl _ _) | (with_reducible assumption) | (with_reducible refine Below.alloc ?_ ?_ _) | (with_reducible refine Below.setCell ?_ ?_ _) | (with_reducible refine Below.drew ?_) | (with_reducible refine below_dn ?_ _) | (with_reducible refine Below.trans ?_ (Below.mono (by assumption) ?_)) | go_size))⟩

theorem vis_3 (f : Fa) (i off : Int) (n : BitVec 64) (set : Bool) (h : Vl.right ⟨3, f, i, off⟩ = true) (hs : set = true) (w : World) : Calls Try.prog 18 #[.agg #[.int .u8 3, .int .u64 (N f.t.v), .int .u64 (N f.t.m), .int .u64 (N f.s.lo), .int .u64 (N f.s.hi), .int .i64 i, .int .i64 off], .int .u64 (N n), .bool set] w fun e w' => e = .returned (.bool (Vl.is_ ⟨3, f, i, off⟩ n set)) ∧ Below w.heap.size w w' := by
  go_enter Try.func18, Try.ntmps18
  go_wp2_with (first | (go_at_call 12; (with_reducible refine (vright_c' _ _ _ _ _ _ _ _).mono ?_); rintro e w1 ⟨rfl, hb1⟩; obtain ⟨hc1, hf1, hz1⟩ := bcell hb1; (try simp only [World.size_alloc, World.size_setCell, World.size_drew] at hc1 hf1 hz1)) | (go_at_call 29; (with_reducible refine (fhas_c' _ _ _ _ _ _).mono ?_); rintro e w1 ⟨rfl, hb1⟩; obtain ⟨hc1, hf1, hz1⟩ := bcell hb1; (try simp only [World.size_alloc, World.size_setCell, World.size_drew] at hc1 hf1 hz1)) | (go_at_call 30; (with_reducible refine (at_c _ _ _).mono ?_); rintro e w1 ⟨rfl, hb1⟩; obtain ⟨hc1, hf1, hz1⟩ := bcell hb1; (try simp only [World.size_alloc, World.size_setCell, World.size_drew] at hc1 hf1 hz1)) | (go_at_call 31; (with_reducible refine (vin_c _ _ _ (by assumption) (by assumption) _).mono ?_); rintro e w1 ⟨rfl, hb1⟩; obtain ⟨hc1, hf1, hz1⟩ := bcell hb1))
  go_ret
  exact ⟨by simp [Vl.is_, *], (by repeat' (first | (with_reducible exact Below.refl _ _) | (with_reducible assumption) | (with_reducible refine Below.alloc ?_ ?_ _) | (with_reducible refine Below.setCell ?_ ?_ _) | (with_reducible refine Below.drew ?_) | (with_reducible refine below_dn ?_ _) | (with_reducible refine Below.trans ?_ (Below.mono (by assumption) ?_)) | go_size))⟩

theorem vis_4 (f : Fa) (i off : Int) (n : BitVec 64) (set : Bool) (h : Vl.right ⟨4, f, i, off⟩ = true) (hs : set = true) (w : World) : Calls Try.prog 18 #[.agg #[.int .u8 4, .int .u64 (N f.t.v), .int .u64 (N f.t.m), .int .u64 (N f.s.lo), .int .u64 (N f.s.hi), .int .i64 i, .int .i64 off], .int .u64 (N n), .bool set] w fun e w' => e = .returned (.bool (Vl.is_ ⟨4, f, i, off⟩ n set)) ∧ Below w.heap.size w w' := by
  go_enter Try.func18, Try.ntmps18
  go_wp2_with (first | (go_at_call 12; (with_reducible refine (vright_c' _ _ _ _ _ _ _ _).mono ?_); rintro e w1 ⟨rfl, hb1⟩; obtain ⟨hc1, hf1, hz1⟩ := bcell hb1; (try simp only [World.size_alloc, World.size_setCell, World.size_drew] at hc1 hf1 hz1)) | (go_at_call 29; (with_reducible refine (fhas_c' _ _ _ _ _ _).mono ?_); rintro e w1 ⟨rfl, hb1⟩; obtain ⟨hc1, hf1, hz1⟩ := bcell hb1; (try simp only [World.size_alloc, World.size_setCell, World.size_drew] at hc1 hf1 hz1)) | (go_at_call 30; (with_reducible refine (at_c _ _ _).mono ?_); rintro e w1 ⟨rfl, hb1⟩; obtain ⟨hc1, hf1, hz1⟩ := bcell hb1; (try simp only [World.size_alloc, World.size_setCell, World.size_drew] at hc1 hf1 hz1)) | (go_at_call 31; (with_reducible refine (vin_c _ _ _ (by assumption) (by assumption) _).mono ?_); rintro e w1 ⟨rfl, hb1⟩; obtain ⟨hc1, hf1, hz1⟩ := bcell hb1))
  go_ret
  exact ⟨by simp [Vl.is_, *], (by repeat' (first | (with_reducible exact Below.refl _ _) | (with_reducible assumption) | (with_reducible refine Below.alloc ?_ ?_ _) | (with_reducible refine Below.setCell ?_ ?_ _) | (with_reducible refine Below.drew ?_) | (with_reducible refine below_dn ?_ _) | (with_reducible refine Below.trans ?_ (Below.mono (by assumption) ?_)) | go_size))⟩

theorem vis_5a (f : Fa) (i off : Int) (n : BitVec 64) (set : Bool) (h : Vl.right ⟨5, f, i, off⟩ = true) (h0 : 0 ≤ i) (h1 : i < 8) (hs : set = true) (hn : (n == 0#64) = true) (w : World) : Calls Try.prog 18 #[.agg #[.int .u8 5, .int .u64 (N f.t.v), .int .u64 (N f.t.m), .int .u64 (N f.s.lo), .int .u64 (N f.s.hi), .int .i64 i, .int .i64 off], .int .u64 (N n), .bool set] w fun e w' => e = .returned (.bool (Vl.is_ ⟨5, f, i, off⟩ n set)) ∧ Below w.heap.size w w' := by
  go_enter Try.func18, Try.ntmps18
  go_wp2_with (first | (go_at_call 12; (with_reducible refine (vright_c' _ _ _ _ _ _ _ _).mono ?_); rintro e w1 ⟨rfl, hb1⟩; obtain ⟨hc1, hf1, hz1⟩ := bcell hb1; (try simp only [World.size_alloc, World.size_setCell, World.size_drew] at hc1 hf1 hz1)) | (go_at_call 29; (with_reducible refine (fhas_c' _ _ _ _ _ _).mono ?_); rintro e w1 ⟨rfl, hb1⟩; obtain ⟨hc1, hf1, hz1⟩ := bcell hb1; (try simp only [World.size_alloc, World.size_setCell, World.size_drew] at hc1 hf1 hz1)) | (go_at_call 30; (with_reducible refine (at_c _ _ _).mono ?_); rintro e w1 ⟨rfl, hb1⟩; obtain ⟨hc1, hf1, hz1⟩ := bcell hb1; (try simp only [World.size_alloc, World.size_setCell, World.size_drew] at hc1 hf1 hz1)) | (go_at_call 31; (with_reducible refine (vin_c _ _ _ (by assumption) (by assumption) _).mono ?_); rintro e w1 ⟨rfl, hb1⟩; obtain ⟨hc1, hf1, hz1⟩ := bcell hb1))
  go_ret
  exact ⟨by simp [Vl.is_, *], (by repeat' (first | (with_reducible exact Below.refl _ _) | (with_reducible assumption) | (with_reducible refine Below.alloc ?_ ?_ _) | (with_reducible refine Below.setCell ?_ ?_ _) | (with_reducible refine Below.drew ?_) | (with_reducible refine below_dn ?_ _) | (with_reducible refine Below.trans ?_ (Below.mono (by assumption) ?_)) | go_size))⟩

theorem vis_5b (f : Fa) (i off : Int) (n : BitVec 64) (set : Bool) (h : Vl.right ⟨5, f, i, off⟩ = true) (h0 : 0 ≤ i) (h1 : i < 8) (hs : set = true) (hn : (n == 0#64) = false) (w : World) : Calls Try.prog 18 #[.agg #[.int .u8 5, .int .u64 (N f.t.v), .int .u64 (N f.t.m), .int .u64 (N f.s.lo), .int .u64 (N f.s.hi), .int .i64 i, .int .i64 off], .int .u64 (N n), .bool set] w fun e w' => e = .returned (.bool (Vl.is_ ⟨5, f, i, off⟩ n set)) ∧ Below w.heap.size w w' := by
  go_enter Try.func18, Try.ntmps18
  go_wp2_with (first | (go_at_call 12; (with_reducible refine (vright_c' _ _ _ _ _ _ _ _).mono ?_); rintro e w1 ⟨rfl, hb1⟩; obtain ⟨hc1, hf1, hz1⟩ := bcell hb1; (try simp only [World.size_alloc, World.size_setCell, World.size_drew] at hc1 hf1 hz1)) | (go_at_call 29; (with_reducible refine (fhas_c' _ _ _ _ _ _).mono ?_); rintro e w1 ⟨rfl, hb1⟩; obtain ⟨hc1, hf1, hz1⟩ := bcell hb1; (try simp only [World.size_alloc, World.size_setCell, World.size_drew] at hc1 hf1 hz1)) | (go_at_call 30; (with_reducible refine (at_c _ _ _).mono ?_); rintro e w1 ⟨rfl, hb1⟩; obtain ⟨hc1, hf1, hz1⟩ := bcell hb1; (try simp only [World.size_alloc, World.size_setCell, World.size_drew] at hc1 hf1 hz1)) | (go_at_call 31; (with_reducible refine (vin_c _ _ _ (by assumption) (by assumption) _).mono ?_); rintro e w1 ⟨rfl, hb1⟩; obtain ⟨hc1, hf1, hz1⟩ := bcell hb1))
  go_ret
  exact ⟨by simp [Vl.is_, *], (by repeat' (first | (with_reducible exact Below.refl _ _) | (with_reducible assumption) | (with_reducible refine Below.alloc ?_ ?_ _) | (with_reducible refine Below.setCell ?_ ?_ _) | (with_reducible refine Below.drew ?_) | (with_reducible refine below_dn ?_ _) | (with_reducible refine Below.trans ?_ (Below.mono (by assumption) ?_)) | go_size))⟩

theorem vis_6a (f : Fa) (i off : Int) (n : BitVec 64) (set : Bool) (h : Vl.right ⟨6, f, i, off⟩ = true) (h0 : 0 ≤ i) (h1 : i < 8) (hs : set = true) (hn : (n == 0#64) = true) (w : World) : Calls Try.prog 18 #[.agg #[.int .u8 6, .int .u64 (N f.t.v), .int .u64 (N f.t.m), .int .u64 (N f.s.lo), .int .u64 (N f.s.hi), .int .i64 i, .int .i64 off], .int .u64 (N n), .bool set] w fun e w' => e = .returned (.bool (Vl.is_ ⟨6, f, i, off⟩ n set)) ∧ Below w.heap.size w w' := by
  go_enter Try.func18, Try.ntmps18
  go_wp2_with (first | (go_at_call 12; (with_reducible refine (vright_c' _ _ _ _ _ _ _ _).mono ?_); rintro e w1 ⟨rfl, hb1⟩; obtain ⟨hc1, hf1, hz1⟩ := bcell hb1; (try simp only [World.size_alloc, World.size_setCell, World.size_drew] at hc1 hf1 hz1)) | (go_at_call 29; (with_reducible refine (fhas_c' _ _ _ _ _ _).mono ?_); rintro e w1 ⟨rfl, hb1⟩; obtain ⟨hc1, hf1, hz1⟩ := bcell hb1; (try simp only [World.size_alloc, World.size_setCell, World.size_drew] at hc1 hf1 hz1)) | (go_at_call 30; (with_reducible refine (at_c _ _ _).mono ?_); rintro e w1 ⟨rfl, hb1⟩; obtain ⟨hc1, hf1, hz1⟩ := bcell hb1; (try simp only [World.size_alloc, World.size_setCell, World.size_drew] at hc1 hf1 hz1)) | (go_at_call 31; (with_reducible refine (vin_c _ _ _ (by assumption) (by assumption) _).mono ?_); rintro e w1 ⟨rfl, hb1⟩; obtain ⟨hc1, hf1, hz1⟩ := bcell hb1))
  go_ret
  exact ⟨by simp [Vl.is_, *], (by repeat' (first | (with_reducible exact Below.refl _ _) | (with_reducible assumption) | (with_reducible refine Below.alloc ?_ ?_ _) | (with_reducible refine Below.setCell ?_ ?_ _) | (with_reducible refine Below.drew ?_) | (with_reducible refine below_dn ?_ _) | (with_reducible refine Below.trans ?_ (Below.mono (by assumption) ?_)) | go_size))⟩

theorem vis_6b (f : Fa) (i off : Int) (n : BitVec 64) (set : Bool) (h : Vl.right ⟨6, f, i, off⟩ = true) (h0 : 0 ≤ i) (h1 : i < 8) (hs : set = true) (hn : (n == 0#64) = false) (w : World) : Calls Try.prog 18 #[.agg #[.int .u8 6, .int .u64 (N f.t.v), .int .u64 (N f.t.m), .int .u64 (N f.s.lo), .int .u64 (N f.s.hi), .int .i64 i, .int .i64 off], .int .u64 (N n), .bool set] w fun e w' => e = .returned (.bool (Vl.is_ ⟨6, f, i, off⟩ n set)) ∧ Below w.heap.size w w' := by
  go_enter Try.func18, Try.ntmps18
  go_wp2_with (first | (go_at_call 12; (with_reducible refine (vright_c' _ _ _ _ _ _ _ _).mono ?_); rintro e w1 ⟨rfl, hb1⟩; obtain ⟨hc1, hf1, hz1⟩ := bcell hb1; (try simp only [World.size_alloc, World.size_setCell, World.size_drew] at hc1 hf1 hz1)) | (go_at_call 29; (with_reducible refine (fhas_c' _ _ _ _ _ _).mono ?_); rintro e w1 ⟨rfl, hb1⟩; obtain ⟨hc1, hf1, hz1⟩ := bcell hb1; (try simp only [World.size_alloc, World.size_setCell, World.size_drew] at hc1 hf1 hz1)) | (go_at_call 30; (with_reducible refine (at_c _ _ _).mono ?_); rintro e w1 ⟨rfl, hb1⟩; obtain ⟨hc1, hf1, hz1⟩ := bcell hb1; (try simp only [World.size_alloc, World.size_setCell, World.size_drew] at hc1 hf1 hz1)) | (go_at_call 31; (with_reducible refine (vin_c _ _ _ (by assumption) (by assumption) _).mono ?_); rintro e w1 ⟨rfl, hb1⟩; obtain ⟨hc1, hf1, hz1⟩ := bcell hb1))
  go_ret
  exact ⟨by simp [Vl.is_, *], (by repeat' (first | (with_reducible exact Below.refl _ _) | (with_reducible assumption) | (with_reducible refine Below.alloc ?_ ?_ _) | (with_reducible refine Below.setCell ?_ ?_ _) | (with_reducible refine Below.drew ?_) | (with_reducible refine below_dn ?_ _) | (with_reducible refine Below.trans ?_ (Below.mono (by assumption) ?_)) | go_size))⟩

theorem vis_c (v : Vl) (n : BitVec 64) (set : Bool) (w : World) : Calls Try.prog 18 #[.agg #[.int .u8 v.k, .int .u64 (N v.f.t.v), .int .u64 (N v.f.t.m), .int .u64 (N v.f.s.lo), .int .u64 (N v.f.s.hi), .int .i64 v.i, .int .i64 v.off], .int .u64 (N n), .bool set] w fun e w' => e = .returned (.bool (Vl.is_ v n set)) ∧ Below w.heap.size w w' := by
  cases h : Vl.right v
  · exact vis_no v n set h w
  obtain ⟨h0, h1, _, _⟩ := Vl.right_bounds h
  by_cases e0 : v.k = 0
  · obtain ⟨k, f, i, off⟩ := v
    obtain rfl : k = 0 := e0
    exact vis_0 f i off n set h w
  cases hs : set
  · exact vis_un v n false h e0 rfl w
  have e := Vl.right_kind h
  obtain ⟨k, f, i, off⟩ := v
  simp only at e h0 h1 e0
  obtain e | e | e | e | e | e | e := e <;> subst e
  · exact absurd rfl e0
  · exact vis_1 f i off n true h rfl w
  · exact vis_2 f i off n true h rfl w
  · exact vis_3 f i off n true h rfl w
  · exact vis_4 f i off n true h rfl w
  · cases hn : (n == 0#64)
    · exact vis_5b f i off n true h h0 h1 rfl hn w
    · exact vis_5a f i off n true h h0 h1 rfl hn w
  · cases hn : (n == 0#64)
    · exact vis_6b f i off n true h h0 h1 rfl hn w
    · exact vis_6a f i off n true h h0 h1 rfl hn w

theorem vis_c' (k0 : Int) (x0 y0 z0 u0 : BitVec 64) (i0 o0 : Int) (x1 : BitVec 64) (x2 : Bool) (w : World) : Calls Try.prog 18 #[.agg #[.int .u8 k0, .int .u64 (N x0), .int .u64 (N y0), .int .u64 (N z0), .int .u64 (N u0), .int .i64 i0, .int .i64 o0], .int .u64 (N x1), .bool x2] w fun e w' => e = .returned (.bool (Vl.is_ (⟨k0, ⟨⟨x0, y0⟩, ⟨z0, u0⟩⟩, i0, o0⟩ : Vl) x1 x2)) ∧ Below w.heap.size w w' := by
  exact vis_c (⟨k0, ⟨⟨x0, y0⟩, ⟨z0, u0⟩⟩, i0, o0⟩ : Vl) x1 x2 w

end Hk
