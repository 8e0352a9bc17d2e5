/- The reference of registers: Num, Pointer, Is; old memory is as it was. No condition but those in each statement. -/
import Derived.Test.YtnngchpbblehfaaProg
import Derived.Test.YtnngchpbblehfaaGp
import Derived.Test.YtnngchpbblehfaaVl
import Derived.Test.YtnngchpbblehfaaVl5
import Derived.Test.YtnngchpbblehfaaGx
import Derived.Test.YtnngchpbblehfaaVl10
namespace Hk
open Go Go.RowKit Go.Proofs
set_option linter.unusedSimpArgs false
set_option linter.unusedVariables false
set_option maxRecDepth 100000
attribute [go_sem] Tn.eta Sp.eta Fa.eta Vl.eta
theorem Vl.maybe_off {f : Fa} {i off : Int} (h : Vl.right ⟨6, f, i, off⟩ = true) : off = 0 := by
  unfold Vl.right at h
  simp at h
  exact h.2.2

theorem rvnum_c (f : Fa) (w : World) : Calls Try.prog 15 #[.agg #[.int .u64 (N f.t.v), .int .u64 (N f.t.m), .int .u64 (N f.s.lo), .int .u64 (N f.s.hi)]] w fun e w' => e = .returned (.agg #[.int .u8 (Vl.num f).k, .int .u64 (N (Vl.num f).f.t.v), .int .u64 (N (Vl.num f).f.t.m), .int .u64 (N (Vl.num f).f.s.lo), .int .u64 (N (Vl.num f).f.s.hi), .int .i64 (Vl.num f).i, .int .i64 (Vl.num f).off]) ∧ Below w.heap.size w w' := by
  cases h1 : Fa.ok f
  all_goals
    go_enter Try.func15, Try.ntmps15
    go_wp2_with (first | (go_at_call 20; (with_reducible refine (rfright_c' _ _ _ _ _).mono ?_); rintro e w1 ⟨rfl, hb1⟩; obtain ⟨hc1, hf1, hz1⟩ := bcell hb1; (try simp only [World.size_alloc, World.size_setCell, World.size_drew] at hc1 hf1 hz1)))
    refine bodyPost_ret ?_ rfl ⟨rfl, (by repeat' (first | (with_reducible exact Below.refl _ _) | (with_reducible assumption) | (with_reducible refine Below.alloc ?_ ?_ _) | (with_reducible refine Below.setCell ?_ ?_ _) | (with_reducible refine Below.drew ?_) | (with_reducible refine below_dn ?_ _) | (with_reducible refine Below.trans ?_ (Below.mono (by assumption) ?_)) | go_size))⟩
    simp only [results, Try.results15]; simp [*, go_sem, ↓IntWalk.iteOmega, Vl.num, Vl.zero, Vl.join, Vl.move, Fa.zero]; try (first | rfl | exact ⟨rfl, rfl⟩)

theorem rvnum_c' (x0 y0 z0 u0 : BitVec 64) (w : World) : Calls Try.prog 15 #[.agg #[.int .u64 (N x0), .int .u64 (N y0), .int .u64 (N z0), .int .u64 (N u0)]] w fun e w' => e = .returned (.agg #[.int .u8 (Vl.num (⟨⟨x0, y0⟩, ⟨z0, u0⟩⟩ : Fa)).k, .int .u64 (N (Vl.num (⟨⟨x0, y0⟩, ⟨z0, u0⟩⟩ : Fa)).f.t.v), .int .u64 (N (Vl.num (⟨⟨x0, y0⟩, ⟨z0, u0⟩⟩ : Fa)).f.t.m), .int .u64 (N (Vl.num (⟨⟨x0, y0⟩, ⟨z0, u0⟩⟩ : Fa)).f.s.lo), .int .u64 (N (Vl.num (⟨⟨x0, y0⟩, ⟨z0, u0⟩⟩ : Fa)).f.s.hi), .int .i64 (Vl.num (⟨⟨x0, y0⟩, ⟨z0, u0⟩⟩ : Fa)).i, .int .i64 (Vl.num (⟨⟨x0, y0⟩, ⟨z0, u0⟩⟩ : Fa)).off]) ∧ Below w.heap.size w w' := by
  exact rvnum_c (⟨⟨x0, y0⟩, ⟨z0, u0⟩⟩ : Fa) w

theorem rvptr_2 (f : Fa) (i off : Int) (hr : Vl.right ⟨2, f, i, off⟩ = true) (w : World) : Calls Try.prog 17 #[.agg #[.int .u8 2, .int .u64 (N f.t.v), .int .u64 (N f.t.m), .int .u64 (N f.s.lo), .int .u64 (N f.s.hi), .int .i64 i, .int .i64 off]] w fun e w' => e = .returned (.bool true) ∧ Below w.heap.size w w' := by
  go_enter Try.func17, Try.ntmps17
  go_wp2_with (first | (go_at_call 13; (with_reducible refine (rvright_c' _ _ _ _ _ _ _ _).mono ?_); rintro e w1 ⟨rfl, hb1⟩; obtain ⟨hc1, hf1, hz1⟩ := bcell hb1; (try simp only [World.size_alloc, World.size_setCell, World.size_drew] at hc1 hf1 hz1)))
  go_ret
  exact ⟨rfl, (by repeat' (first | (with_reducible exact Below.refl _ _) | (with_reducible assumption) | (with_reducible refine Below.alloc ?_ ?_ _) | (with_reducible refine Below.setCell ?_ ?_ _) | (with_reducible refine Below.drew ?_) | (with_reducible refine below_dn ?_ _) | (with_reducible refine Below.trans ?_ (Below.mono (by assumption) ?_)) | go_size))⟩

theorem rvptr_3 (f : Fa) (i off : Int) (hr : Vl.right ⟨3, f, i, off⟩ = true) (w : World) : Calls Try.prog 17 #[.agg #[.int .u8 3, .int .u64 (N f.t.v), .int .u64 (N f.t.m), .int .u64 (N f.s.lo), .int .u64 (N f.s.hi), .int .i64 i, .int .i64 off]] w fun e w' => e = .returned (.bool true) ∧ Below w.heap.size w w' := by
  go_enter Try.func17, Try.ntmps17
  go_wp2_with (first | (go_at_call 13; (with_reducible refine (rvright_c' _ _ _ _ _ _ _ _).mono ?_); rintro e w1 ⟨rfl, hb1⟩; obtain ⟨hc1, hf1, hz1⟩ := bcell hb1; (try simp only [World.size_alloc, World.size_setCell, World.size_drew] at hc1 hf1 hz1)))
  go_ret
  exact ⟨rfl, (by repeat' (first | (with_reducible exact Below.refl _ _) | (with_reducible assumption) | (with_reducible refine Below.alloc ?_ ?_ _) | (with_reducible refine Below.setCell ?_ ?_ _) | (with_reducible refine Below.drew ?_) | (with_reducible refine below_dn ?_ _) | (with_reducible refine Below.trans ?_ (Below.mono (by assumption) ?_)) | go_size))⟩

theorem rvptr_5 (f : Fa) (i off : Int) (hr : Vl.right ⟨5, f, i, off⟩ = true) (w : World) : Calls Try.prog 17 #[.agg #[.int .u8 5, .int .u64 (N f.t.v), .int .u64 (N f.t.m), .int .u64 (N f.s.lo), .int .u64 (N f.s.hi), .int .i64 i, .int .i64 off]] w fun e w' => e = .returned (.bool true) ∧ Below w.heap.size w w' := by
  go_enter Try.func17, Try.ntmps17
  go_wp2_with (first | (go_at_call 13; (with_reducible refine (rvright_c' _ _ _ _ _ _ _ _).mono ?_); rintro e w1 ⟨rfl, hb1⟩; obtain ⟨hc1, hf1, hz1⟩ := bcell hb1; (try simp only [World.size_alloc, World.size_setCell, World.size_drew] at hc1 hf1 hz1)))
  go_ret
  exact ⟨rfl, (by repeat' (first | (with_reducible exact Below.refl _ _) | (with_reducible assumption) | (with_reducible refine Below.alloc ?_ ?_ _) | (with_reducible refine Below.setCell ?_ ?_ _) | (with_reducible refine Below.drew ?_) | (with_reducible refine below_dn ?_ _) | (with_reducible refine Below.trans ?_ (Below.mono (by assumption) ?_)) | go_size))⟩

theorem rvptr_f (k : Int) (f : Fa) (i off : Int) (hr : Vl.right ⟨k, f, i, off⟩ = false) (w : World) : Calls Try.prog 17 #[.agg #[.int .u8 k, .int .u64 (N f.t.v), .int .u64 (N f.t.m), .int .u64 (N f.s.lo), .int .u64 (N f.s.hi), .int .i64 i, .int .i64 off]] w fun e w' => e = .returned (.bool false) ∧ Below w.heap.size w w' := by
  go_enter Try.func17, Try.ntmps17
  go_wp2_with (first | (go_at_call 13; (with_reducible refine (rvright_c' _ _ _ _ _ _ _ _).mono ?_); rintro e w1 ⟨rfl, hb1⟩; obtain ⟨hc1, hf1, hz1⟩ := bcell hb1; (try simp only [World.size_alloc, World.size_setCell, World.size_drew] at hc1 hf1 hz1)))
  go_ret
  exact ⟨rfl, (by repeat' (first | (with_reducible exact Below.refl _ _) | (with_reducible assumption) | (with_reducible refine Below.alloc ?_ ?_ _) | (with_reducible refine Below.setCell ?_ ?_ _) | (with_reducible refine Below.drew ?_) | (with_reducible refine below_dn ?_ _) | (with_reducible refine Below.trans ?_ (Below.mono (by assumption) ?_)) | go_size))⟩

theorem rvptr_no (k : Int) (f : Fa) (i off : Int) (hr : Vl.right ⟨k, f, i, off⟩ = true) (e2 : ¬ k = 2) (e3 : ¬ k = 3) (e5 : ¬ k = 5) (w : World) : Calls Try.prog 17 #[.agg #[.int .u8 k, .int .u64 (N f.t.v), .int .u64 (N f.t.m), .int .u64 (N f.s.lo), .int .u64 (N f.s.hi), .int .i64 i, .int .i64 off]] w fun e w' => e = .returned (.bool false) ∧ Below w.heap.size w w' := by
  go_enter Try.func17, Try.ntmps17
  go_wp2_with (first | (go_at_call 13; (with_reducible refine (rvright_c' _ _ _ _ _ _ _ _).mono ?_); rintro e w1 ⟨rfl, hb1⟩; obtain ⟨hc1, hf1, hz1⟩ := bcell hb1; (try simp only [World.size_alloc, World.size_setCell, World.size_drew] at hc1 hf1 hz1)))
  go_ret
  exact ⟨by simp [*], (by repeat' (first | (with_reducible exact Below.refl _ _) | (with_reducible assumption) | (with_reducible refine Below.alloc ?_ ?_ _) | (with_reducible refine Below.setCell ?_ ?_ _) | (with_reducible refine Below.drew ?_) | (with_reducible refine below_dn ?_ _) | (with_reducible refine Below.trans ?_ (Below.mono (by assumption) ?_)) | go_size))⟩

theorem rvptr_c (v : Vl) (w : World) : Calls Try.prog 17 #[.agg #[.int .u8 v.k, .int .u64 (N v.f.t.v), .int .u64 (N v.f.t.m), .int .u64 (N v.f.s.lo), .int .u64 (N v.f.s.hi), .int .i64 v.i, .int .i64 v.off]] w fun e w' => e = .returned (.bool (Vl.ptr v)) ∧ Below w.heap.size w w' := by
  obtain ⟨k, f, i, off⟩ := v
  cases hr : Vl.right ⟨k, f, i, off⟩
  · have e : Vl.ptr ⟨k, f, i, off⟩ = false := by simp [Vl.ptr, hr]
    rw [e]; exact rvptr_f k f i off hr w
  by_cases e2 : k = 2
  · subst e2
    have e : Vl.ptr ⟨2, f, i, off⟩ = true := by simp [Vl.ptr, hr]
    rw [e]; exact rvptr_2 f i off hr w
  by_cases e3 : k = 3
  · subst e3
    have e : Vl.ptr ⟨3, f, i, off⟩ = true := by simp [Vl.ptr, hr]
    rw [e]; exact rvptr_3 f i off hr w
  by_cases e5 : k = 5
  · subst e5
    have e : Vl.ptr ⟨5, f, i, off⟩ = true := by simp [Vl.ptr, hr]
    rw [e]; exact rvptr_5 f i off hr w
  have e : Vl.ptr ⟨k, f, i, off⟩ = false := by simp [Vl.ptr, e2, e3, e5]
  rw [e]
  exact rvptr_no k f i off hr e2 e3 e5 w

theorem rvptr_c' (k0 : Int) (x0 y0 z0 u0 : BitVec 64) (i0 o0 : Int) (w : World) : Calls Try.prog 17 #[.agg #[.int .u8 k0, .int .u64 (N x0), .int .u64 (N y0), .int .u64 (N z0), .int .u64 (N u0), .int .i64 i0, .int .i64 o0]] w fun e w' => e = .returned (.bool (Vl.ptr (⟨k0, ⟨⟨x0, y0⟩, ⟨z0, u0⟩⟩, i0, o0⟩ : Vl))) ∧ Below w.heap.size w w' := by
  exact rvptr_c (⟨k0, ⟨⟨x0, y0⟩, ⟨z0, u0⟩⟩, i0, o0⟩ : Vl) w

theorem rvis_no (v : Vl) (n : BitVec 64) (set : Bool) (h : Vl.right v = false) (w : World) : Calls Try.prog 19 #[.agg #[.int .u8 v.k, .int .u64 (N v.f.t.v), .int .u64 (N v.f.t.m), .int .u64 (N v.f.s.lo), .int .u64 (N v.f.s.hi), .int .i64 v.i, .int .i64 v.off], .int .u64 (N n), .bool set] w fun e w' => e = .returned (.bool (Vl.is_ v n set)) ∧ Below w.heap.size w w' := by
  go_enter Try.func19, Try.ntmps19
  go_wp2_with (first | (go_at_call 13; (with_reducible refine (rvright_c' _ _ _ _ _ _ _ _).mono ?_); rintro e w1 ⟨rfl, hb1⟩; obtain ⟨hc1, hf1, hz1⟩ := bcell hb1; (try simp only [World.size_alloc, World.size_setCell, World.size_drew] at hc1 hf1 hz1)) | (go_at_call 32; (with_reducible refine (rfhas_c' _ _ _ _ _ _).mono ?_); rintro e w1 ⟨rfl, hb1⟩; obtain ⟨hc1, hf1, hz1⟩ := bcell hb1; (try simp only [World.size_alloc, World.size_setCell, World.size_drew] at hc1 hf1 hz1)) | (go_at_call 27; (with_reducible refine (r8at_q _ _ _).mono ?_); rintro e w1 ⟨rfl, rfl⟩) | (go_at_call 33; (with_reducible refine (rvin_c _ _ _ (by assumption) (by assumption) _).mono ?_); rintro e w1 ⟨rfl, rfl⟩))
  go_ret
  exact ⟨by simp [Vl.is_, *], (by repeat' (first | (with_reducible exact Below.refl _ _) | (with_reducible assumption) | (with_reducible refine Below.alloc ?_ ?_ _) | (with_reducible refine Below.setCell ?_ ?_ _) | (with_reducible refine Below.drew ?_) | (with_reducible refine below_dn ?_ _) | (with_reducible refine Below.trans ?_ (Below.mono (by assumption) ?_)) | go_size))⟩

theorem rvis_0 (f : Fa) (i off : Int) (n : BitVec 64) (set : Bool) (h : Vl.right ⟨0, f, i, off⟩ = true)  (w : World) : Calls Try.prog 19 #[.agg #[.int .u8 0, .int .u64 (N f.t.v), .int .u64 (N f.t.m), .int .u64 (N f.s.lo), .int .u64 (N f.s.hi), .int .i64 i, .int .i64 off], .int .u64 (N n), .bool set] w fun e w' => e = .returned (.bool (Vl.is_ ⟨0, f, i, off⟩ n set)) ∧ Below w.heap.size w w' := by
  cases set
  all_goals
    go_enter Try.func19, Try.ntmps19
    go_wp2_with (first | (go_at_call 13; (with_reducible refine (rvright_c' _ _ _ _ _ _ _ _).mono ?_); rintro e w1 ⟨rfl, hb1⟩; obtain ⟨hc1, hf1, hz1⟩ := bcell hb1; (try simp only [World.size_alloc, World.size_setCell, World.size_drew] at hc1 hf1 hz1)) | (go_at_call 32; (with_reducible refine (rfhas_c' _ _ _ _ _ _).mono ?_); rintro e w1 ⟨rfl, hb1⟩; obtain ⟨hc1, hf1, hz1⟩ := bcell hb1; (try simp only [World.size_alloc, World.size_setCell, World.size_drew] at hc1 hf1 hz1)) | (go_at_call 27; (with_reducible refine (r8at_q _ _ _).mono ?_); rintro e w1 ⟨rfl, rfl⟩) | (go_at_call 33; (with_reducible refine (rvin_c _ _ _ (by assumption) (by assumption) _).mono ?_); rintro e w1 ⟨rfl, rfl⟩))
    go_ret
    exact ⟨by simp [Vl.is_, *], (by repeat' (first | (with_reducible exact Below.refl _ _) | (with_reducible assumption) | (with_reducible refine Below.alloc ?_ ?_ _) | (with_reducible refine Below.setCell ?_ ?_ _) | (with_reducible refine Below.drew ?_) | (with_reducible refine below_dn ?_ _) | (with_reducible refine Below.trans ?_ (Below.mono (by assumption) ?_)) | go_size))⟩

theorem rvis_1t (f : Fa) (i off : Int) (n : BitVec 64) (set : Bool) (h : Vl.right ⟨1, f, i, off⟩ = true) (hb : Fa.has f n = true) (w : World) : Calls Try.prog 19 #[.agg #[.int .u8 1, .int .u64 (N f.t.v), .int .u64 (N f.t.m), .int .u64 (N f.s.lo), .int .u64 (N f.s.hi), .int .i64 i, .int .i64 off], .int .u64 (N n), .bool set] w fun e w' => e = .returned (.bool (Vl.is_ ⟨1, f, i, off⟩ n set)) ∧ Below w.heap.size w w' := by
  cases set
  all_goals
    go_enter Try.func19, Try.ntmps19
    go_wp2_with (first | (go_at_call 13; (with_reducible refine (rvright_c' _ _ _ _ _ _ _ _).mono ?_); rintro e w1 ⟨rfl, hb1⟩; obtain ⟨hc1, hf1, hz1⟩ := bcell hb1; (try simp only [World.size_alloc, World.size_setCell, World.size_drew] at hc1 hf1 hz1)) | (go_at_call 32; (with_reducible refine (rfhas_c' _ _ _ _ _ _).mono ?_); rintro e w1 ⟨rfl, hb1⟩; obtain ⟨hc1, hf1, hz1⟩ := bcell hb1; (try simp only [World.size_alloc, World.size_setCell, World.size_drew] at hc1 hf1 hz1)) | (go_at_call 27; (with_reducible refine (r8at_q _ _ _).mono ?_); rintro e w1 ⟨rfl, rfl⟩) | (go_at_call 33; (with_reducible refine (rvin_c _ _ _ (by assumption) (by assumption) _).mono ?_); rintro e w1 ⟨rfl, rfl⟩))
    go_ret
    exact ⟨by simp [Vl.is_, *], (by repeat' (first | (with_reducible exact Below.refl _ _) | (with_reducible assumption) | (with_reducible refine Below.alloc ?_ ?_ _) | (with_reducible refine Below.setCell ?_ ?_ _) | (with_reducible refine Below.drew ?_) | (with_reducible refine below_dn ?_ _) | (with_reducible refine Below.trans ?_ (Below.mono (by assumption) ?_)) | go_size))⟩

theorem rvis_1f (f : Fa) (i off : Int) (n : BitVec 64) (set : Bool) (h : Vl.right ⟨1, f, i, off⟩ = true) (hb : Fa.has f n = false) (w : World) : Calls Try.prog 19 #[.agg #[.int .u8 1, .int .u64 (N f.t.v), .int .u64 (N f.t.m), .int .u64 (N f.s.lo), .int .u64 (N f.s.hi), .int .i64 i, .int .i64 off], .int .u64 (N n), .bool set] w fun e w' => e = .returned (.bool (Vl.is_ ⟨1, f, i, off⟩ n set)) ∧ Below w.heap.size w w' := by
  cases set
  all_goals
    go_enter Try.func19, Try.ntmps19
    go_wp2_with (first | (go_at_call 13; (with_reducible refine (rvright_c' _ _ _ _ _ _ _ _).mono ?_); rintro e w1 ⟨rfl, hb1⟩; obtain ⟨hc1, hf1, hz1⟩ := bcell hb1; (try simp only [World.size_alloc, World.size_setCell, World.size_drew] at hc1 hf1 hz1)) | (go_at_call 32; (with_reducible refine (rfhas_c' _ _ _ _ _ _).mono ?_); rintro e w1 ⟨rfl, hb1⟩; obtain ⟨hc1, hf1, hz1⟩ := bcell hb1; (try simp only [World.size_alloc, World.size_setCell, World.size_drew] at hc1 hf1 hz1)) | (go_at_call 27; (with_reducible refine (r8at_q _ _ _).mono ?_); rintro e w1 ⟨rfl, rfl⟩) | (go_at_call 33; (with_reducible refine (rvin_c _ _ _ (by assumption) (by assumption) _).mono ?_); rintro e w1 ⟨rfl, rfl⟩))
    go_ret
    exact ⟨by simp [Vl.is_, *], (by repeat' (first | (with_reducible exact Below.refl _ _) | (with_reducible assumption) | (with_reducible refine Below.alloc ?_ ?_ _) | (with_reducible refine Below.setCell ?_ ?_ _) | (with_reducible refine Below.drew ?_) | (with_reducible refine below_dn ?_ _) | (with_reducible refine Below.trans ?_ (Below.mono (by assumption) ?_)) | go_size))⟩

theorem rvis_2t (f : Fa) (i off : Int) (n : BitVec 64) (set : Bool) (h : Vl.right ⟨2, f, i, off⟩ = true) (hb : (n == Vl.at_ 1 off) = true) (w : World) : Calls Try.prog 19 #[.agg #[.int .u8 2, .int .u64 (N f.t.v), .int .u64 (N f.t.m), .int .u64 (N f.s.lo), .int .u64 (N f.s.hi), .int .i64 i, .int .i64 off], .int .u64 (N n), .bool set] w fun e w' => e = .returned (.bool (Vl.is_ ⟨2, f, i, off⟩ n set)) ∧ Below w.heap.size w w' := by
  cases set
  all_goals
    go_enter Try.func19, Try.ntmps19
    go_wp2_with (first | (go_at_call 13; (with_reducible refine (rvright_c' _ _ _ _ _ _ _ _).mono ?_); rintro e w1 ⟨rfl, hb1⟩; obtain ⟨hc1, hf1, hz1⟩ := bcell hb1; (try simp only [World.size_alloc, World.size_setCell, World.size_drew] at hc1 hf1 hz1)) | (go_at_call 32; (with_reducible refine (rfhas_c' _ _ _ _ _ _).mono ?_); rintro e w1 ⟨rfl, hb1⟩; obtain ⟨hc1, hf1, hz1⟩ := bcell hb1; (try simp only [World.size_alloc, World.size_setCell, World.size_drew] at hc1 hf1 hz1)) | (go_at_call 27; (with_reducible refine (r8at_q _ _ _).mono ?_); rintro e w1 ⟨rfl, rfl⟩) | (go_at_call 33; (with_reducible refine (rvin_c _ _ _ (by assumption) (by assumption) _).mono ?_); rintro e w1 ⟨rfl, rfl⟩))
    go_ret
    exact ⟨by simp [Vl.is_, *], (by repeat' (first | (with_reducible exact Below.refl _ _) | (with_reducible assumption) | (with_reducible refine Below.alloc ?_ ?_ _) | (with_reducible refine Below.setCell ?_ ?_ _) | (with_reducible refine Below.drew ?_) | (with_reducible refine below_dn ?_ _) | (with_reducible refine Below.trans ?_ (Below.mono (by assumption) ?_)) | go_size))⟩

theorem rvis_2f (f : Fa) (i off : Int) (n : BitVec 64) (set : Bool) (h : Vl.right ⟨2, f, i, off⟩ = true) (hb : (n == Vl.at_ 1 off) = false) (w : World) : Calls Try.prog 19 #[.agg #[.int .u8 2, .int .u64 (N f.t.v), .int .u64 (N f.t.m), .int .u64 (N f.s.lo), .int .u64 (N f.s.hi), .int .i64 i, .int .i64 off], .int .u64 (N n), .bool set] w fun e w' => e = .returned (.bool (Vl.is_ ⟨2, f, i, off⟩ n set)) ∧ Below w.heap.size w w' := by
  cases set
  all_goals
    go_enter Try.func19, Try.ntmps19
    go_wp2_with (first | (go_at_call 13; (with_reducible refine (rvright_c' _ _ _ _ _ _ _ _).mono ?_); rintro e w1 ⟨rfl, hb1⟩; obtain ⟨hc1, hf1, hz1⟩ := bcell hb1; (try simp only [World.size_alloc, World.size_setCell, World.size_drew] at hc1 hf1 hz1)) | (go_at_call 32; (with_reducible refine (rfhas_c' _ _ _ _ _ _).mono ?_); rintro e w1 ⟨rfl, hb1⟩; obtain ⟨hc1, hf1, hz1⟩ := bcell hb1; (try simp only [World.size_alloc, World.size_setCell, World.size_drew] at hc1 hf1 hz1)) | (go_at_call 27; (with_reducible refine (r8at_q _ _ _).mono ?_); rintro e w1 ⟨rfl, rfl⟩) | (go_at_call 33; (with_reducible refine (rvin_c _ _ _ (by assumption) (by assumption) _).mono ?_); rintro e w1 ⟨rfl, rfl⟩))
    go_ret
    exact ⟨by simp [Vl.is_, *], (by repeat' (first | (with_reducible exact Below.refl _ _) | (with_reducible assumption) | (with_reducible refine Below.alloc ?_ ?_ _) | (with_reducible refine Below.setCell ?_ ?_ _) | (with_reducible refine Below.drew ?_) | (with_reducible refine below_dn ?_ _) | (with_reducible refine Below.trans ?_ (Below.mono (by assumption) ?_)) | go_size))⟩

theorem rvis_3t (f : Fa) (i off : Int) (n : BitVec 64) (set : Bool) (h : Vl.right ⟨3, f, i, off⟩ = true) (hb : (n == Vl.at_ 2 off) = true) (w : World) : Calls Try.prog 19 #[.agg #[.int .u8 3, .int .u64 (N f.t.v), .int .u64 (N f.t.m), .int .u64 (N f.s.lo), .int .u64 (N f.s.hi), .int .i64 i, .int .i64 off], .int .u64 (N n), .bool set] w fun e w' => e = .returned (.bool (Vl.is_ ⟨3, f, i, off⟩ n set)) ∧ Below w.heap.size w w' := by
  cases set
  all_goals
    go_enter Try.func19, Try.ntmps19
    go_wp2_with (first | (go_at_call 13; (with_reducible refine (rvright_c' _ _ _ _ _ _ _ _).mono ?_); rintro e w1 ⟨rfl, hb1⟩; obtain ⟨hc1, hf1, hz1⟩ := bcell hb1; (try simp only [World.size_alloc, World.size_setCell, World.size_drew] at hc1 hf1 hz1)) | (go_at_call 32; (with_reducible refine (rfhas_c' _ _ _ _ _ _).mono ?_); rintro e w1 ⟨rfl, hb1⟩; obtain ⟨hc1, hf1, hz1⟩ := bcell hb1; (try simp only [World.size_alloc, World.size_setCell, World.size_drew] at hc1 hf1 hz1)) | (go_at_call 27; (with_reducible refine (r8at_q _ _ _).mono ?_); rintro e w1 ⟨rfl, rfl⟩) | (go_at_call 33; (with_reducible refine (rvin_c _ _ _ (by assumption) (by assumption) _).mono ?_); rintro e w1 ⟨rfl, rfl⟩))
    go_ret
    exact ⟨by simp [Vl.is_, *], (by repeat' (first | (with_reducible exact Below.refl _ _) | (with_reducible assumption) | (with_reducible refine Below.alloc ?_ ?_ _) | (with_reducible refine Below.setCell ?_ ?_ _) | (with_reducible refine Below.drew ?_) | (with_reducible refine below_dn ?_ _) | (with_reducible refine Below.trans ?_ (Below.mono (by assumption) ?_)) | go_size))⟩

theorem rvis_3f (f : Fa) (i off : Int) (n : BitVec 64) (set : Bool) (h : Vl.right ⟨3, f, i, off⟩ = true) (hb : (n == Vl.at_ 2 off) = false) (w : World) : Calls Try.prog 19 #[.agg #[.int .u8 3, .int .u64 (N f.t.v), .int .u64 (N f.t.m), .int .u64 (N f.s.lo), .int .u64 (N f.s.hi), .int .i64 i, .int .i64 off], .int .u64 (N n), .bool set] w fun e w' => e = .returned (.bool (Vl.is_ ⟨3, f, i, off⟩ n set)) ∧ Below w.heap.size w w' := by
  cases set
  all_goals
    go_enter Try.func19, Try.ntmps19
    go_wp2_with (first | (go_at_call 13; (with_reducible refine (rvright_c' _ _ _ _ _ _ _ _).mono ?_); rintro e w1 ⟨rfl, hb1⟩; obtain ⟨hc1, hf1, hz1⟩ := bcell hb1; (try simp only [World.size_alloc, World.size_setCell, World.size_drew] at hc1 hf1 hz1)) | (go_at_call 32; (with_reducible refine (rfhas_c' _ _ _ _ _ _).mono ?_); rintro e w1 ⟨rfl, hb1⟩; obtain ⟨hc1, hf1, hz1⟩ := bcell hb1; (try simp only [World.size_alloc, World.size_setCell, World.size_drew] at hc1 hf1 hz1)) | (go_at_call 27; (with_reducible refine (r8at_q _ _ _).mono ?_); rintro e w1 ⟨rfl, rfl⟩) | (go_at_call 33; (with_reducible refine (rvin_c _ _ _ (by assumption) (by assumption) _).mono ?_); rintro e w1 ⟨rfl, rfl⟩))
    go_ret
    exact ⟨by simp [Vl.is_, *], (by repeat' (first | (with_reducible exact Below.refl _ _) | (with_reducible assumption) | (with_reducible refine Below.alloc ?_ ?_ _) | (with_reducible refine Below.setCell ?_ ?_ _) | (with_reducible refine Below.drew ?_) | (with_reducible refine below_dn ?_ _) | (with_reducible refine Below.trans ?_ (Below.mono (by assumption) ?_)) | go_size))⟩

theorem rvis_4t (f : Fa) (i off : Int) (n : BitVec 64) (set : Bool) (h : Vl.right ⟨4, f, i, off⟩ = true) (hb : (n == Vl.at_ 3 i) = true) (w : World) : Calls Try.prog 19 #[.agg #[.int .u8 4, .int .u64 (N f.t.v), .int .u64 (N f.t.m), .int .u64 (N f.s.lo), .int .u64 (N f.s.hi), .int .i64 i, .int .i64 off], .int .u64 (N n), .bool set] w fun e w' => e = .returned (.bool (Vl.is_ ⟨4, f, i, off⟩ n set)) ∧ Below w.heap.size w w' := by
  cases set
  all_goals
    go_enter Try.func19, Try.ntmps19
    go_wp2_with (first | (go_at_call 13; (with_reducible refine (rvright_c' _ _ _ _ _ _ _ _).mono ?_); rintro e w1 ⟨rfl, hb1⟩; obtain ⟨hc1, hf1, hz1⟩ := bcell hb1; (try simp only [World.size_alloc, World.size_setCell, World.size_drew] at hc1 hf1 hz1)) | (go_at_call 32; (with_reducible refine (rfhas_c' _ _ _ _ _ _).mono ?_); rintro e w1 ⟨rfl, hb1⟩; obtain ⟨hc1, hf1, hz1⟩ := bcell hb1; (try simp only [World.size_alloc, World.size_setCell, World.size_drew] at hc1 hf1 hz1)) | (go_at_call 27; (with_reducible refine (r8at_q _ _ _).mono ?_); rintro e w1 ⟨rfl, rfl⟩) | (go_at_call 33; (with_reducible refine (rvin_c _ _ _ (by assumption) (by assumption) _).mono ?_); rintro e w1 ⟨rfl, rfl⟩))
    go_ret
    exact ⟨by simp [Vl.is_, *], (by repeat' (first | (with_reducible exact Below.refl _ _) | (with_reducible assumption) | (with_reducible refine Below.alloc ?_ ?_ _) | (with_reducible refine Below.setCell ?_ ?_ _) | (with_reducible refine Below.drew ?_) | (with_reducible refine below_dn ?_ _) | (with_reducible refine Below.trans ?_ (Below.mono (by assumption) ?_)) | go_size))⟩

theorem rvis_4f (f : Fa) (i off : Int) (n : BitVec 64) (set : Bool) (h : Vl.right ⟨4, f, i, off⟩ = true) (hb : (n == Vl.at_ 3 i) = false) (w : World) : Calls Try.prog 19 #[.agg #[.int .u8 4, .int .u64 (N f.t.v), .int .u64 (N f.t.m), .int .u64 (N f.s.lo), .int .u64 (N f.s.hi), .int .i64 i, .int .i64 off], .int .u64 (N n), .bool set] w fun e w' => e = .returned (.bool (Vl.is_ ⟨4, f, i, off⟩ n set)) ∧ Below w.heap.size w w' := by
  cases set
  all_goals
    go_enter Try.func19, Try.ntmps19
    go_wp2_with (first | (go_at_call 13; (with_reducible refine (rvright_c' _ _ _ _ _ _ _ _).mono ?_); rintro e w1 ⟨rfl, hb1⟩; obtain ⟨hc1, hf1, hz1⟩ := bcell hb1; (try simp only [World.size_alloc, World.size_setCell, World.size_drew] at hc1 hf1 hz1)) | (go_at_call 32; (with_reducible refine (rfhas_c' _ _ _ _ _ _).mono ?_); rintro e w1 ⟨rfl, hb1⟩; obtain ⟨hc1, hf1, hz1⟩ := bcell hb1; (try simp only [World.size_alloc, World.size_setCell, World.size_drew] at hc1 hf1 hz1)) | (go_at_call 27; (with_reducible refine (r8at_q _ _ _).mono ?_); rintro e w1 ⟨rfl, rfl⟩) | (go_at_call 33; (with_reducible refine (rvin_c _ _ _ (by assumption) (by assumption) _).mono ?_); rintro e w1 ⟨rfl, rfl⟩))
    go_ret
    exact ⟨by simp [Vl.is_, *], (by repeat' (first | (with_reducible exact Below.refl _ _) | (with_reducible assumption) | (with_reducible refine Below.alloc ?_ ?_ _) | (with_reducible refine Below.setCell ?_ ?_ _) | (with_reducible refine Below.drew ?_) | (with_reducible refine below_dn ?_ _) | (with_reducible refine Below.trans ?_ (Below.mono (by assumption) ?_)) | go_size))⟩

theorem rvis_5t (f : Fa) (i off : Int) (n : BitVec 64) (set : Bool) (h : Vl.right ⟨5, f, i, off⟩ = true) (h0 : 0 ≤ i) (h1 : i < 8) (hb : Vl.inA i off n = true) (w : World) : Calls Try.prog 19 #[.agg #[.int .u8 5, .int .u64 (N f.t.v), .int .u64 (N f.t.m), .int .u64 (N f.s.lo), .int .u64 (N f.s.hi), .int .i64 i, .int .i64 off], .int .u64 (N n), .bool set] w fun e w' => e = .returned (.bool (Vl.is_ ⟨5, f, i, off⟩ n set)) ∧ Below w.heap.size w w' := by
  cases set
  all_goals
    go_enter Try.func19, Try.ntmps19
    go_wp2_with (first | (go_at_call 13; (with_reducible refine (rvright_c' _ _ _ _ _ _ _ _).mono ?_); rintro e w1 ⟨rfl, hb1⟩; obtain ⟨hc1, hf1, hz1⟩ := bcell hb1; (try simp only [World.size_alloc, World.size_setCell, World.size_drew] at hc1 hf1 hz1)) | (go_at_call 32; (with_reducible refine (rfhas_c' _ _ _ _ _ _).mono ?_); rintro e w1 ⟨rfl, hb1⟩; obtain ⟨hc1, hf1, hz1⟩ := bcell hb1; (try simp only [World.size_alloc, World.size_setCell, World.size_drew] at hc1 hf1 hz1)) | (go_at_call 27; (with_reducible refine (r8at_q _ _ _).mono ?_); rintro e w1 ⟨rfl, rfl⟩) | (go_at_call 33; (with_reducible refine (rvin_c _ _ _ (by assumption) (by assumption) _).mono ?_); rintro e w1 ⟨rfl, rfl⟩))
    go_ret
    exact ⟨by simp [Vl.is_, *], (by repeat' (first | (with_reducible exact Below.refl _ _) | (with_reducible assumption) | (with_reducible refine Below.alloc ?_ ?_ _) | (with_reducible refine Below.setCell ?_ ?_ _) | (with_reducible refine Below.drew ?_) | (with_reducible refine below_dn ?_ _) | (with_reducible refine Below.trans ?_ (Below.mono (by assumption) ?_)) | go_size))⟩

theorem rvis_5f (f : Fa) (i off : Int) (n : BitVec 64) (set : Bool) (h : Vl.right ⟨5, f, i, off⟩ = true) (h0 : 0 ≤ i) (h1 : i < 8) (hb : Vl.inA i off n = false) (w : World) : Calls Try.prog 19 #[.agg #[.int .u8 5, .int .u64 (N f.t.v), .int .u64 (N f.t.m), .int .u64 (N f.s.lo), .int .u64 (N f.s.hi), .int .i64 i, .int .i64 off], .int .u64 (N n), .bool set] w fun e w' => e = .returned (.bool (Vl.is_ ⟨5, f, i, off⟩ n set)) ∧ Below w.heap.size w w' := by
  cases set
  all_goals
    go_enter Try.func19, Try.ntmps19
    go_wp2_with (first | (go_at_call 13; (with_reducible refine (rvright_c' _ _ _ _ _ _ _ _).mono ?_); rintro e w1 ⟨rfl, hb1⟩; obtain ⟨hc1, hf1, hz1⟩ := bcell hb1; (try simp only [World.size_alloc, World.size_setCell, World.size_drew] at hc1 hf1 hz1)) | (go_at_call 32; (with_reducible refine (rfhas_c' _ _ _ _ _ _).mono ?_); rintro e w1 ⟨rfl, hb1⟩; obtain ⟨hc1, hf1, hz1⟩ := bcell hb1; (try simp only [World.size_alloc, World.size_setCell, World.size_drew] at hc1 hf1 hz1)) | (go_at_call 27; (with_reducible refine (r8at_q _ _ _).mono ?_); rintro e w1 ⟨rfl, rfl⟩) | (go_at_call 33; (with_reducible refine (rvin_c _ _ _ (by assumption) (by assumption) _).mono ?_); rintro e w1 ⟨rfl, rfl⟩))
    go_ret
    exact ⟨by simp [Vl.is_, *], (by repeat' (first | (with_reducible exact Below.refl _ _) | (with_reducible assumption) | (with_reducible refine Below.alloc ?_ ?_ _) | (with_reducible refine Below.setCell ?_ ?_ _) | (with_reducible refine Below.drew ?_) | (with_reducible refine below_dn ?_ _) | (with_reducible refine Below.trans ?_ (Below.mono (by assumption) ?_)) | go_size))⟩

theorem rvis_6a (f : Fa) (i off : Int) (n : BitVec 64) (set : Bool) (h : Vl.right ⟨6, f, i, off⟩ = true) (h0 : 0 ≤ i) (h1 : i < 8) (hn : (n == 0#64) = true) (w : World) : Calls Try.prog 19 #[.agg #[.int .u8 6, .int .u64 (N f.t.v), .int .u64 (N f.t.m), .int .u64 (N f.s.lo), .int .u64 (N f.s.hi), .int .i64 i, .int .i64 off], .int .u64 (N n), .bool set] w fun e w' => e = .returned (.bool (Vl.is_ ⟨6, f, i, off⟩ n set)) ∧ Below w.heap.size w w' := by
  cases set
  all_goals
    go_enter Try.func19, Try.ntmps19
    go_wp2_with (first | (go_at_call 13; (with_reducible refine (rvright_c' _ _ _ _ _ _ _ _).mono ?_); rintro e w1 ⟨rfl, hb1⟩; obtain ⟨hc1, hf1, hz1⟩ := bcell hb1; (try simp only [World.size_alloc, World.size_setCell, World.size_drew] at hc1 hf1 hz1)) | (go_at_call 32; (with_reducible refine (rfhas_c' _ _ _ _ _ _).mono ?_); rintro e w1 ⟨rfl, hb1⟩; obtain ⟨hc1, hf1, hz1⟩ := bcell hb1; (try simp only [World.size_alloc, World.size_setCell, World.size_drew] at hc1 hf1 hz1)) | (go_at_call 27; (with_reducible refine (r8at_q _ _ _).mono ?_); rintro e w1 ⟨rfl, rfl⟩) | (go_at_call 33; (with_reducible refine (rvin_c _ _ _ (by assumption) (by assumption) _).mono ?_); rintro e w1 ⟨rfl, rfl⟩))
    go_ret
    exact ⟨by simp [Vl.is_, *], (by repeat' (first | (with_reducible exact Below.refl _ _) | (with_reducible assumption) | (with_reducible refine Below.alloc ?_ ?_ _) | (with_reducible refine Below.setCell ?_ ?_ _) | (with_reducible refine Below.drew ?_) | (with_reducible refine below_dn ?_ _) | (with_reducible refine Below.trans ?_ (Below.mono (by assumption) ?_)) | go_size))⟩

theorem rvis_6t (f : Fa) (i off : Int) (n : BitVec 64) (set : Bool) (h : Vl.right ⟨6, f, i, off⟩ = true) (h0 : 0 ≤ i) (h1 : i < 8) (ho : off = 0) (hn : (n == 0#64) = false) (hb : Vl.inA i 0 n = true) (w : World) : Calls Try.prog 19 #[.agg #[.int .u8 6, .int .u64 (N f.t.v), .int .u64 (N f.t.m), .int .u64 (N f.s.lo), .int .u64 (N f.s.hi), .int .i64 i, .int .i64 off], .int .u64 (N n), .bool set] w fun e w' => e = .returned (.bool (Vl.is_ ⟨6, f, i, off⟩ n set)) ∧ Below w.heap.size w w' := by
  subst ho
  cases set
  all_goals
    go_enter Try.func19, Try.ntmps19
    go_wp2_with (first | (go_at_call 13; (with_reducible refine (rvright_c' _ _ _ _ _ _ _ _).mono ?_); rintro e w1 ⟨rfl, hb1⟩; obtain ⟨hc1, hf1, hz1⟩ := bcell hb1; (try simp only [World.size_alloc, World.size_setCell, World.size_drew] at hc1 hf1 hz1)) | (go_at_call 32; (with_reducible refine (rfhas_c' _ _ _ _ _ _).mono ?_); rintro e w1 ⟨rfl, hb1⟩; obtain ⟨hc1, hf1, hz1⟩ := bcell hb1; (try simp only [World.size_alloc, World.size_setCell, World.size_drew] at hc1 hf1 hz1)) | (go_at_call 27; (with_reducible refine (r8at_q _ _ _).mono ?_); rintro e w1 ⟨rfl, rfl⟩) | (go_at_call 33; (with_reducible refine (rvin_c _ _ _ (by assumption) (by assumption) _).mono ?_); rintro e w1 ⟨rfl, rfl⟩))
    go_ret
    exact ⟨by simp [Vl.is_, *], (by repeat' (first | (with_reducible exact Below.refl _ _) | (with_reducible assumption) | (with_reducible refine Below.alloc ?_ ?_ _) | (with_reducible refine Below.setCell ?_ ?_ _) | (with_reducible refine Below.drew ?_) | (with_reducible refine below_dn ?_ _) | (with_reducible refine Below.trans ?_ (Below.mono (by assumption) ?_)) | go_size))⟩

theorem rvis_6f (f : Fa) (i off : Int) (n : BitVec 64) (set : Bool) (h : Vl.right ⟨6, f, i, off⟩ = true) (h0 : 0 ≤ i) (h1 : i < 8) (ho : off = 0) (hn : (n == 0#64) = false) (hb : Vl.inA i 0 n = false) (w : World) : Calls Try.prog 19 #[.agg #[.int .u8 6, .int .u64 (N f.t.v), .int .u64 (N f.t.m), .int .u64 (N f.s.lo), .int .u64 (N f.s.hi), .int .i64 i, .int .i64 off], .int .u64 (N n), .bool set] w fun e w' => e = .returned (.bool (Vl.is_ ⟨6, f, i, off⟩ n set)) ∧ Below w.heap.size w w' := by
  subst ho
  cases set
  all_goals
    go_enter Try.func19, Try.ntmps19
    go_wp2_with (first | (go_at_call 13; (with_reducible refine (rvright_c' _ _ _ _ _ _ _ _).mono ?_); rintro e w1 ⟨rfl, hb1⟩; obtain ⟨hc1, hf1, hz1⟩ := bcell hb1; (try simp only [World.size_alloc, World.size_setCell, World.size_drew] at hc1 hf1 hz1)) | (go_at_call 32; (with_reducible refine (rfhas_c' _ _ _ _ _ _).mono ?_); rintro e w1 ⟨rfl, hb1⟩; obtain ⟨hc1, hf1, hz1⟩ := bcell hb1; (try simp only [World.size_alloc, World.size_setCell, World.size_drew] at hc1 hf1 hz1)) | (go_at_call 27; (with_reducible refine (r8at_q _ _ _).mono ?_); rintro e w1 ⟨rfl, rfl⟩) | (go_at_call 33; (with_reducible refine (rvin_c _ _ _ (by assumption) (by assumption) _).mono ?_); rintro e w1 ⟨rfl, rfl⟩))
    go_ret
    exact ⟨by simp [Vl.is_, *], (by repeat' (first | (with_reducible exact Below.refl _ _) | (with_reducible assumption) | (with_reducible refine Below.alloc ?_ ?_ _) | (with_reducible refine Below.setCell ?_ ?_ _) | (with_reducible refine Below.drew ?_) | (with_reducible refine below_dn ?_ _) | (with_reducible refine Below.trans ?_ (Below.mono (by assumption) ?_)) | go_size))⟩

theorem rvis_c (v : Vl) (n : BitVec 64) (set : Bool) (w : World) : Calls Try.prog 19 #[.agg #[.int .u8 v.k, .int .u64 (N v.f.t.v), .int .u64 (N v.f.t.m), .int .u64 (N v.f.s.lo), .int .u64 (N v.f.s.hi), .int .i64 v.i, .int .i64 v.off], .int .u64 (N n), .bool set] w fun e w' => e = .returned (.bool (Vl.is_ v n set)) ∧ Below w.heap.size w w' := by
  cases h : Vl.right v
  · exact rvis_no v n set h w
  obtain ⟨h0, h1, _, _⟩ := Vl.right_bounds h
  have e := Vl.right_kind h
  obtain ⟨k, f, i, off⟩ := v
  simp only at e h0 h1
  obtain e | e | e | e | e | e | e := e <;> subst e
  · exact rvis_0 f i off n set h w
  · cases hb : Fa.has f n
    · exact rvis_1f f i off n set h hb w
    · exact rvis_1t f i off n set h hb w
  · cases hb : (n == Vl.at_ 1 off)
    · exact rvis_2f f i off n set h hb w
    · exact rvis_2t f i off n set h hb w
  · cases hb : (n == Vl.at_ 2 off)
    · exact rvis_3f f i off n set h hb w
    · exact rvis_3t f i off n set h hb w
  · cases hb : (n == Vl.at_ 3 i)
    · exact rvis_4f f i off n set h hb w
    · exact rvis_4t f i off n set h hb w
  · cases hb : Vl.inA i off n
    · exact rvis_5f f i off n set h h0 h1 hb w
    · exact rvis_5t f i off n set h h0 h1 hb w
  · cases hn : (n == 0#64)
    · have ho : off = 0 := Vl.maybe_off h
      cases hb : Vl.inA i 0 n
      · exact rvis_6f f i off n set h h0 h1 ho hn hb w
      · exact rvis_6t f i off n set h h0 h1 ho hn hb w
    · exact rvis_6a f i off n set h h0 h1 hn w

theorem rvis_c' (k0 : Int) (x0 y0 z0 u0 : BitVec 64) (i0 o0 : Int) (x1 : BitVec 64) (x2 : Bool) (w : World) : Calls Try.prog 19 #[.agg #[.int .u8 k0, .int .u64 (N x0), .int .u64 (N y0), .int .u64 (N z0), .int .u64 (N u0), .int .i64 i0, .int .i64 o0], .int .u64 (N x1), .bool x2] w fun e w' => e = .returned (.bool (Vl.is_ (⟨k0, ⟨⟨x0, y0⟩, ⟨z0, u0⟩⟩, i0, o0⟩ : Vl) x1 x2)) ∧ Below w.heap.size w w' := by
  exact rvis_c (⟨k0, ⟨⟨x0, y0⟩, ⟨z0, u0⟩⟩, i0, o0⟩ : Vl) x1 x2 w

end Hk
