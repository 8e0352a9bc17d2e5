/- Package val: Within, Join, Move; old memory is as it was. No condition but those in each statement. -/
import Derived.Test.YtnngchpbblehfaaProg
import Derived.Test.YtnngchpbblehfaaGp
import Derived.Test.YtnngchpbblehfaaVl
import Derived.Test.YtnngchpbblehfaaVl1
import Derived.Test.YtnngchpbblehfaaVl2
import Derived.Test.YtnngchpbblehfaaVl3
import Derived.Test.YtnngchpbblehfaaGm
import Derived.Test.YtnngchpbblehfaaFa5
import Derived.Deep.DeepCutAuto
namespace Hk
open Go Go.RowKit Go.Proofs
set_option linter.unusedSimpArgs false
set_option linter.unusedVariables false
set_option maxRecDepth 100000
attribute [go_sem] Tn.eta Sp.eta Fa.eta Vl.eta
theorem Vl.ptr_right {v : Vl} (h : Vl.ptr v = true) : Vl.right v = true := by
  unfold Vl.ptr at h; rw [Bool.and_eq_true] at h; exact h.2

theorem vwithin_n1 (a b : Vl) (ra : Vl.right a = false) (w : World) : Calls Try.prog 21 #[.agg #[.int .u8 a.k, .int .u64 (N a.f.t.v), .int .u64 (N a.f.t.m), .int .u64 (N a.f.s.lo), .int .u64 (N a.f.s.hi), .int .i64 a.i, .int .i64 a.off], .agg #[.int .u8 b.k, .int .u64 (N b.f.t.v), .int .u64 (N b.f.t.m), .int .u64 (N b.f.s.lo), .int .u64 (N b.f.s.hi), .int .i64 b.i, .int .i64 b.off]] w fun e w' => e = .returned (.bool (Vl.within a b)) ∧ Below w.heap.size w w' := by
  go_enter Try.func21, Try.ntmps21
  go_wp2_with (first | (go_at_call 12; (with_reducible refine (vright_c' _ _ _ _ _ _ _ _).mono ?_); rintro e w1 ⟨rfl, hb1⟩; obtain ⟨hc1, hf1, hz1⟩ := bcell hb1; (try simp only [World.size_alloc, World.size_setCell, World.size_drew] at hc1 hf1 hz1)))
  go_ret
  exact ⟨by simp [Vl.within, *], (by repeat' (first | (with_reducible exact Below.refl _ _) | (with_reducible assumption) | (with_reducible refine Below.alloc ?_ ?_ _) | (with_reducible refine Below.setCell ?_ ?_ _) | (with_reducible refine Below.drew ?_) | (with_reducible refine below_dn ?_ _) | (with_reducible refine Below.trans ?_ (Below.mono (by assumption) ?_)) | go_size))⟩

theorem vwithin_n2 (a b : Vl) (ra : Vl.right a = true) (rb : Vl.right b = false) (w : World) : Calls Try.prog 21 #[.agg #[.int .u8 a.k, .int .u64 (N a.f.t.v), .int .u64 (N a.f.t.m), .int .u64 (N a.f.s.lo), .int .u64 (N a.f.s.hi), .int .i64 a.i, .int .i64 a.off], .agg #[.int .u8 b.k, .int .u64 (N b.f.t.v), .int .u64 (N b.f.t.m), .int .u64 (N b.f.s.lo), .int .u64 (N b.f.s.hi), .int .i64 b.i, .int .i64 b.off]] w fun e w' => e = .returned (.bool (Vl.within a b)) ∧ Below w.heap.size w w' := by
  go_enter Try.func21, Try.ntmps21
  go_wp2_with (first | (go_at_call 12; (with_reducible refine (vright_c' _ _ _ _ _ _ _ _).mono ?_); rintro e w1 ⟨rfl, hb1⟩; obtain ⟨hc1, hf1, hz1⟩ := bcell hb1; (try simp only [World.size_alloc, World.size_setCell, World.size_drew] at hc1 hf1 hz1)))
  go_ret
  exact ⟨by simp [Vl.within, *], (by repeat' (first | (with_reducible exact Below.refl _ _) | (with_reducible assumption) | (with_reducible refine Below.alloc ?_ ?_ _) | (with_reducible refine Below.setCell ?_ ?_ _) | (with_reducible refine Below.drew ?_) | (with_reducible refine below_dn ?_ _) | (with_reducible refine Below.trans ?_ (Below.mono (by assumption) ?_)) | go_size))⟩

set_option maxHeartbeats 4000000 in
theorem vwithin_in (a b : Vl) (ra : Vl.right a = true) (rb : Vl.right b = true) (w : World) : Calls Try.prog 21 #[.agg #[.int .u8 a.k, .int .u64 (N a.f.t.v), .int .u64 (N a.f.t.m), .int .u64 (N a.f.s.lo), .int .u64 (N a.f.s.hi), .int .i64 a.i, .int .i64 a.off], .agg #[.int .u8 b.k, .int .u64 (N b.f.t.v), .int .u64 (N b.f.t.m), .int .u64 (N b.f.s.lo), .int .u64 (N b.f.s.hi), .int .i64 b.i, .int .i64 b.off]] w fun e w' => e = .returned (.bool (Vl.within a b)) ∧ Below w.heap.size w w' := by
  go_enter Try.func21, Try.ntmps21
  go_upto_region 3 with (first | (go_at_call 12; (with_reducible refine (vright_c' _ _ _ _ _ _ _ _).mono ?_); rintro e w1 ⟨rfl, hb1⟩; obtain ⟨hc1, hf1, hz1⟩ := bcell hb1; (try simp only [World.size_alloc, World.size_setCell, World.size_drew] at hc1 hf1 hz1)))
  by_cases h1 : a.k = 1 <;> by_cases h2 : b.k = 1
  · go_wp2_with (first | (go_at_call 35; (with_reducible refine (fwithin_c' _ _ _ _ _ _ _ _ _).mono ?_); rintro e w1 ⟨rfl, hb1⟩; obtain ⟨hc1, hf1, hz1⟩ := bcell hb1; (try simp only [World.size_alloc, World.size_setCell, World.size_drew] at hc1 hf1 hz1)))
    (go_ret; exact ⟨by simp [Vl.within, Vl.eq_iff, *], (by repeat' (first | (with_reducible exact Below.refl _ _) | (with_reducible assumption) | (with_reducible refine Below.alloc ?_ ?_ _) | (with_reducible refine Below.setCell ?_ ?_ _) | (with_reducible refine Below.drew ?_) | (with_reducible refine below_dn ?_ _) | (with_reducible refine Below.trans ?_ (Below.mono (by assumption) ?_)) | go_size))⟩)
  all_goals (go_wp2; all_goals (go_ret; exact ⟨by simp [Vl.within, Vl.eq_iff, *], (by repeat' (first | (with_reducible exact Below.refl _ _) | (with_reducible assumption) | (with_reducible refine Below.alloc ?_ ?_ _) | (with_reducible refine Below.setCell ?_ ?_ _) | (with_reducible refine Below.drew ?_) | (with_reducible refine below_dn ?_ _) | (with_reducible refine Below.trans ?_ (Below.mono (by assumption) ?_)) | go_size))⟩))

theorem vwithin_c (a b : Vl) (w : World) : Calls Try.prog 21 #[.agg #[.int .u8 a.k, .int .u64 (N a.f.t.v), .int .u64 (N a.f.t.m), .int .u64 (N a.f.s.lo), .int .u64 (N a.f.s.hi), .int .i64 a.i, .int .i64 a.off], .agg #[.int .u8 b.k, .int .u64 (N b.f.t.v), .int .u64 (N b.f.t.m), .int .u64 (N b.f.s.lo), .int .u64 (N b.f.s.hi), .int .i64 b.i, .int .i64 b.off]] w fun e w' => e = .returned (.bool (Vl.within a b)) ∧ Below w.heap.size w w' := by
  cases ra : Vl.right a
  · exact vwithin_n1 a b ra w
  cases rb : Vl.right b
  · exact vwithin_n2 a b ra rb w
  exact vwithin_in a b ra rb w

theorem vwithin_c' (k0 : Int) (x0 y0 z0 u0 : BitVec 64) (i0 o0 : Int) (k1 : Int) (x1 y1 z1 u1 : BitVec 64) (i1 o1 : Int) (w : World) : Calls Try.prog 21 #[.agg #[.int .u8 k0, .int .u64 (N x0), .int .u64 (N y0), .int .u64 (N z0), .int .u64 (N u0), .int .i64 i0, .int .i64 o0], .agg #[.int .u8 k1, .int .u64 (N x1), .int .u64 (N y1), .int .u64 (N z1), .int .u64 (N u1), .int .i64 i1, .int .i64 o1]] w fun e w' => e = .returned (.bool (Vl.within (⟨k0, ⟨⟨x0, y0⟩, ⟨z0, u0⟩⟩, i0, o0⟩ : Vl) (⟨k1, ⟨⟨x1, y1⟩, ⟨z1, u1⟩⟩, i1, o1⟩ : Vl))) ∧ Below w.heap.size w w' := by
  exact vwithin_c (⟨k0, ⟨⟨x0, y0⟩, ⟨z0, u0⟩⟩, i0, o0⟩ : Vl) (⟨k1, ⟨⟨x1, y1⟩, ⟨z1, u1⟩⟩, i1, o1⟩ : Vl) w

theorem vjoin_n1 (a b : Vl) (ra : Vl.right a = false) (w : World) : Calls Try.prog 23 #[.agg #[.int .u8 a.k, .int .u64 (N a.f.t.v), .int .u64 (N a.f.t.m), .int .u64 (N a.f.s.lo), .int .u64 (N a.f.s.hi), .int .i64 a.i, .int .i64 a.off], .agg #[.int .u8 b.k, .int .u64 (N b.f.t.v), .int .u64 (N b.f.t.m), .int .u64 (N b.f.s.lo), .int .u64 (N b.f.s.hi), .int .i64 b.i, .int .i64 b.off]] w fun e w' => e = .returned (.agg #[.int .u8 (Vl.join a b).k, .int .u64 (N (Vl.join a b).f.t.v), .int .u64 (N (Vl.join a b).f.t.m), .int .u64 (N (Vl.join a b).f.s.lo), .int .u64 (N (Vl.join a b).f.s.hi), .int .i64 (Vl.join a b).i, .int .i64 (Vl.join a b).off]) ∧ Below w.heap.size w w' := by
  have E : Vl.join a b = Vl.zero := by simp [Vl.join, *]
  rw [E]; clear E
  go_enter Try.func23, Try.ntmps23
  go_wp2_with (first | (go_at_call 12; (with_reducible refine (vright_c' _ _ _ _ _ _ _ _).mono ?_); rintro e w1 ⟨rfl, hb1⟩; obtain ⟨hc1, hf1, hz1⟩ := bcell hb1; (try simp only [World.size_alloc, World.size_setCell, World.size_drew] at hc1 hf1 hz1)))
  refine bodyPost_ret ?_ rfl ⟨rfl, (by repeat' (first | (with_reducible exact Below.refl _ _) | (with_reducible assumption) | (with_reducible refine Below.alloc ?_ ?_ _) | (with_reducible refine Below.setCell ?_ ?_ _) | (with_reducible refine Below.drew ?_) | (with_reducible refine below_dn ?_ _) | (with_reducible refine Below.trans ?_ (Below.mono (by assumption) ?_)) | go_size))⟩
  simp only [results, Try.results23]; simp [*, go_sem, ↓IntWalk.iteOmega, Vl.num, Vl.zero, Vl.join, Vl.move, Fa.zero]; try (first | rfl | exact ⟨rfl, rfl⟩)

theorem vjoin_n2 (a b : Vl) (ra : Vl.right a = true) (rb : Vl.right b = false) (w : World) : Calls Try.prog 23 #[.agg #[.int .u8 a.k, .int .u64 (N a.f.t.v), .int .u64 (N a.f.t.m), .int .u64 (N a.f.s.lo), .int .u64 (N a.f.s.hi), .int .i64 a.i, .int .i64 a.off], .agg #[.int .u8 b.k, .int .u64 (N b.f.t.v), .int .u64 (N b.f.t.m), .int .u64 (N b.f.s.lo), .int .u64 (N b.f.s.hi), .int .i64 b.i, .int .i64 b.off]] w fun e w' => e = .returned (.agg #[.int .u8 (Vl.join a b).k, .int .u64 (N (Vl.join a b).f.t.v), .int .u64 (N (Vl.join a b).f.t.m), .int .u64 (N (Vl.join a b).f.s.lo), .int .u64 (N (Vl.join a b).f.s.hi), .int .i64 (Vl.join a b).i, .int .i64 (Vl.join a b).off]) ∧ Below w.heap.size w w' := by
  have E : Vl.join a b = Vl.zero := by simp [Vl.join, *]
  rw [E]; clear E
  go_enter Try.func23, Try.ntmps23
  go_wp2_with (first | (go_at_call 12; (with_reducible refine (vright_c' _ _ _ _ _ _ _ _).mono ?_); rintro e w1 ⟨rfl, hb1⟩; obtain ⟨hc1, hf1, hz1⟩ := bcell hb1; (try simp only [World.size_alloc, World.size_setCell, World.size_drew] at hc1 hf1 hz1)))
  refine bodyPost_ret ?_ rfl ⟨rfl, (by repeat' (first | (with_reducible exact Below.refl _ _) | (with_reducible assumption) | (with_reducible refine Below.alloc ?_ ?_ _) | (with_reducible refine Below.setCell ?_ ?_ _) | (with_reducible refine Below.drew ?_) | (with_reducible refine below_dn ?_ _) | (with_reducible refine Below.trans ?_ (Below.mono (by assumption) ?_)) | go_size))⟩
  simp only [results, Try.results23]; simp [*, go_sem, ↓IntWalk.iteOmega, Vl.num, Vl.zero, Vl.join, Vl.move, Fa.zero]; try (first | rfl | exact ⟨rfl, rfl⟩)

theorem vjoin_num (a b : Vl) (ra : Vl.right a = true) (rb : Vl.right b = true) (h1 : a.k = 1) (h2 : b.k = 1) (w : World) : Calls Try.prog 23 #[.agg #[.int .u8 a.k, .int .u64 (N a.f.t.v), .int .u64 (N a.f.t.m), .int .u64 (N a.f.s.lo), .int .u64 (N a.f.s.hi), .int .i64 a.i, .int .i64 a.off], .agg #[.int .u8 b.k, .int .u64 (N b.f.t.v), .int .u64 (N b.f.t.m), .int .u64 (N b.f.s.lo), .int .u64 (N b.f.s.hi), .int .i64 b.i, .int .i64 b.off]] w fun e w' => e = .returned (.agg #[.int .u8 (Vl.join a b).k, .int .u64 (N (Vl.join a b).f.t.v), .int .u64 (N (Vl.join a b).f.t.m), .int .u64 (N (Vl.join a b).f.s.lo), .int .u64 (N (Vl.join a b).f.s.hi), .int .i64 (Vl.join a b).i, .int .i64 (Vl.join a b).off]) ∧ Below w.heap.size w w' := by
  have E : Vl.join a b = Vl.num (Fa.join a.f b.f) := by simp [Vl.join, *]
  rw [E]; clear E
  have h1' := Lib.hid h1
  have h2' := Lib.hid h2
  clear h1 h2
  go_enter Try.func23, Try.ntmps23
  go_upto_region 2 with (first | (go_at_call 12; (with_reducible refine (vright_c' _ _ _ _ _ _ _ _).mono ?_); rintro e w1 ⟨rfl, hb1⟩; obtain ⟨hc1, hf1, hz1⟩ := bcell hb1; (try simp only [World.size_alloc, World.size_setCell, World.size_drew] at hc1 hf1 hz1)))
  have h1 := h1'.out
  have h2 := h2'.out
  go_wp2_with (first | (go_at_call 37; (with_reducible refine (fjoin_c' _ _ _ _ _ _ _ _ _).mono ?_); rintro e w1 ⟨rfl, hb1⟩; obtain ⟨hc1, hf1, hz1⟩ := bcell hb1; (try simp only [World.size_alloc, World.size_setCell, World.size_drew] at hc1 hf1 hz1)) | (go_at_call 14; (with_reducible refine (vnum_c' _ _ _ _ _).mono ?_); rintro e w1 ⟨rfl, hb1⟩; obtain ⟨hc1, hf1, hz1⟩ := bcell hb1; (try simp only [World.size_alloc, World.size_setCell, World.size_drew] at hc1 hf1 hz1)))
  refine bodyPost_ret ?_ rfl ⟨rfl, (by repeat' (first | (with_reducible exact Below.refl _ _) | (with_reducible assumption) | (with_reducible refine Below.alloc ?_ ?_ _) | (with_reducible refine Below.setCell ?_ ?_ _) | (with_reducible refine Below.drew ?_) | (with_reducible refine below_dn ?_ _) | (with_reducible refine Below.trans ?_ (Below.mono (by assumption) ?_)) | go_size))⟩
  simp only [results, Try.results23]; simp [*, go_sem, ↓IntWalk.iteOmega, Vl.num, Vl.zero, Vl.join, Vl.move, Fa.zero]; try (first | rfl | exact ⟨rfl, rfl⟩)

set_option maxHeartbeats 4000000 in
theorem vjoin_same (a b : Vl) (ra : Vl.right a = true) (rb : Vl.right b = true) (hn : ¬ (a.k = 1 ∧ b.k = 1)) (hab : a = b) (w : World) : Calls Try.prog 23 #[.agg #[.int .u8 a.k, .int .u64 (N a.f.t.v), .int .u64 (N a.f.t.m), .int .u64 (N a.f.s.lo), .int .u64 (N a.f.s.hi), .int .i64 a.i, .int .i64 a.off], .agg #[.int .u8 b.k, .int .u64 (N b.f.t.v), .int .u64 (N b.f.t.m), .int .u64 (N b.f.s.lo), .int .u64 (N b.f.s.hi), .int .i64 b.i, .int .i64 b.off]] w fun e w' => e = .returned (.agg #[.int .u8 (Vl.join a b).k, .int .u64 (N (Vl.join a b).f.t.v), .int .u64 (N (Vl.join a b).f.t.m), .int .u64 (N (Vl.join a b).f.s.lo), .int .u64 (N (Vl.join a b).f.s.hi), .int .i64 (Vl.join a b).i, .int .i64 (Vl.join a b).off]) ∧ Below w.heap.size w w' := by
  have E : Vl.join a b = a := by simp only [Vl.join, ra, rb, Bool.and_self, if_true]; rw [if_neg hn]; rw [if_pos hab]
  rw [E]; clear E
  subst hab
  have hn' := Lib.hid hn
  clear hn
  go_enter Try.func23, Try.ntmps23
  go_upto_region 2 with (first | (go_at_call 12; (with_reducible refine (vright_c' _ _ _ _ _ _ _ _).mono ?_); rintro e w1 ⟨rfl, hb1⟩; obtain ⟨hc1, hf1, hz1⟩ := bcell hb1; (try simp only [World.size_alloc, World.size_setCell, World.size_drew] at hc1 hf1 hz1)))
  have h1 : ¬ a.k = 1 := fun e => hn'.out ⟨e, e⟩
  go_wp2
  refine bodyPost_ret ?_ rfl ⟨rfl, (by repeat' (first | (with_reducible exact Below.refl _ _) | (with_reducible assumption) | (with_reducible refine Below.alloc ?_ ?_ _) | (with_reducible refine Below.setCell ?_ ?_ _) | (with_reducible refine Below.drew ?_) | (with_reducible refine below_dn ?_ _) | (with_reducible refine Below.trans ?_ (Below.mono (by assumption) ?_)) | go_size))⟩
  simp only [results, Try.results23]; simp [*, go_sem, ↓IntWalk.iteOmega, Vl.num, Vl.zero, Vl.join, Vl.move, Fa.zero]; try (first | rfl | exact ⟨rfl, rfl⟩)

set_option maxHeartbeats 4000000 in
theorem vjoin_no (a b : Vl) (ra : Vl.right a = true) (rb : Vl.right b = true) (hn : ¬ (a.k = 1 ∧ b.k = 1)) (hab : ¬ a = b) (w : World) : Calls Try.prog 23 #[.agg #[.int .u8 a.k, .int .u64 (N a.f.t.v), .int .u64 (N a.f.t.m), .int .u64 (N a.f.s.lo), .int .u64 (N a.f.s.hi), .int .i64 a.i, .int .i64 a.off], .agg #[.int .u8 b.k, .int .u64 (N b.f.t.v), .int .u64 (N b.f.t.m), .int .u64 (N b.f.s.lo), .int .u64 (N b.f.s.hi), .int .i64 b.i, .int .i64 b.off]] w fun e w' => e = .returned (.agg #[.int .u8 (Vl.join a b).k, .int .u64 (N (Vl.join a b).f.t.v), .int .u64 (N (Vl.join a b).f.t.m), .int .u64 (N (Vl.join a b).f.s.lo), .int .u64 (N (Vl.join a b).f.s.hi), .int .i64 (Vl.join a b).i, .int .i64 (Vl.join a b).off]) ∧ Below w.heap.size w w' := by
  have E : Vl.join a b = Vl.zero := by simp only [Vl.join, ra, rb, Bool.and_self, if_true]; rw [if_neg hn]; rw [if_neg hab]
  rw [E]; clear E
  have hn' := Lib.hid hn
  clear hn
  have hab' := Lib.hid hab
  clear hab
  go_enter Try.func23, Try.ntmps23
  go_upto_region 2 with (first | (go_at_call 12; (with_reducible refine (vright_c' _ _ _ _ _ _ _ _).mono ?_); rintro e w1 ⟨rfl, hb1⟩; obtain ⟨hc1, hf1, hz1⟩ := bcell hb1; (try simp only [World.size_alloc, World.size_setCell, World.size_drew] at hc1 hf1 hz1)))
  have hab := hab'.out
  clear hab'
  by_cases h1 : a.k = 1 <;> by_cases h2 : b.k = 1
  · exact absurd ⟨h1, h2⟩ hn'.out
  all_goals (go_wp2; all_goals (first | (exact absurd (Vl.eq_iff.2 ⟨by assumption, by assumption, by assumption, by assumption, by assumption, by assumption, by assumption⟩) hab) | (refine bodyPost_ret ?_ rfl ⟨rfl, (by repeat' (first | (with_reducible exact Below.refl _ _) | (with_reducible assumption) | (with_reducible refine Below.alloc ?_ ?_ _) | (with_reducible refine Below.setCell ?_ ?_ _) | (with_reducible refine Below.drew ?_) | (with_reducible refine below_dn ?_ _) | (with_reducible refine Below.trans ?_ (Below.mono (by assumption) ?_)) | go_size))⟩; simp only [results, Try.results23]; simp [*, go_sem, ↓IntWalk.iteOmega, Vl.num, Vl.zero, Vl.join, Vl.move, Fa.zero]; try (first | rfl | exact ⟨rfl, rfl⟩))))

theorem vjoin_c (a b : Vl) (w : World) : Calls Try.prog 23 #[.agg #[.int .u8 a.k, .int .u64 (N a.f.t.v), .int .u64 (N a.f.t.m), .int .u64 (N a.f.s.lo), .int .u64 (N a.f.s.hi), .int .i64 a.i, .int .i64 a.off], .agg #[.int .u8 b.k, .int .u64 (N b.f.t.v), .int .u64 (N b.f.t.m), .int .u64 (N b.f.s.lo), .int .u64 (N b.f.s.hi), .int .i64 b.i, .int .i64 b.off]] w fun e w' => e = .returned (.agg #[.int .u8 (Vl.join a b).k, .int .u64 (N (Vl.join a b).f.t.v), .int .u64 (N (Vl.join a b).f.t.m), .int .u64 (N (Vl.join a b).f.s.lo), .int .u64 (N (Vl.join a b).f.s.hi), .int .i64 (Vl.join a b).i, .int .i64 (Vl.join a b).off]) ∧ Below w.heap.size w w' := by
  cases ra : Vl.right a
  · exact vjoin_n1 a b ra w
  cases rb : Vl.right b
  · exact vjoin_n2 a b ra rb w
  by_cases hn : a.k = 1 ∧ b.k = 1
  · exact vjoin_num a b ra rb hn.1 hn.2 w
  by_cases hab : a = b
  · exact vjoin_same a b ra rb hn hab w
  · exact vjoin_no a b ra rb hn hab w

theorem vjoin_c' (k0 : Int) (x0 y0 z0 u0 : BitVec 64) (i0 o0 : Int) (k1 : Int) (x1 y1 z1 u1 : BitVec 64) (i1 o1 : Int) (w : World) : Calls Try.prog 23 #[.agg #[.int .u8 k0, .int .u64 (N x0), .int .u64 (N y0), .int .u64 (N z0), .int .u64 (N u0), .int .i64 i0, .int .i64 o0], .agg #[.int .u8 k1, .int .u64 (N x1), .int .u64 (N y1), .int .u64 (N z1), .int .u64 (N u1), .int .i64 i1, .int .i64 o1]] w fun e w' => e = .returned (.agg #[.int .u8 (Vl.join (⟨k0, ⟨⟨x0, y0⟩, ⟨z0, u0⟩⟩, i0, o0⟩ : Vl) (⟨k1, ⟨⟨x1, y1⟩, ⟨z1, u1⟩⟩, i1, o1⟩ : Vl)).k, .int .u64 (N (Vl.join (⟨k0, ⟨⟨x0, y0⟩, ⟨z0, u0⟩⟩, i0, o0⟩ : Vl) (⟨k1, ⟨⟨x1, y1⟩, ⟨z1, u1⟩⟩, i1, o1⟩ : Vl)).f.t.v), .int .u64 (N (Vl.join (⟨k0, ⟨⟨x0, y0⟩, ⟨z0, u0⟩⟩, i0, o0⟩ : Vl) (⟨k1, ⟨⟨x1, y1⟩, ⟨z1, u1⟩⟩, i1, o1⟩ : Vl)).f.t.m), .int .u64 (N (Vl.join (⟨k0, ⟨⟨x0, y0⟩, ⟨z0, u0⟩⟩, i0, o0⟩ : Vl) (⟨k1, ⟨⟨x1, y1⟩, ⟨z1, u1⟩⟩, i1, o1⟩ : Vl)).f.s.lo), .int .u64 (N (Vl.join (⟨k0, ⟨⟨x0, y0⟩, ⟨z0, u0⟩⟩, i0, o0⟩ : Vl) (⟨k1, ⟨⟨x1, y1⟩, ⟨z1, u1⟩⟩, i1, o1⟩ : Vl)).f.s.hi), .int .i64 (Vl.join (⟨k0, ⟨⟨x0, y0⟩, ⟨z0, u0⟩⟩, i0, o0⟩ : Vl) (⟨k1, ⟨⟨x1, y1⟩, ⟨z1, u1⟩⟩, i1, o1⟩ : Vl)).i, .int .i64 (Vl.join (⟨k0, ⟨⟨x0, y0⟩, ⟨z0, u0⟩⟩, i0, o0⟩ : Vl) (⟨k1, ⟨⟨x1, y1⟩, ⟨z1, u1⟩⟩, i1, o1⟩ : Vl)).off]) ∧ Below w.heap.size w w' := by
  exact vjoin_c (⟨k0, ⟨⟨x0, y0⟩, ⟨z0, u0⟩⟩, i0, o0⟩ : Vl) (⟨k1, ⟨⟨x1, y1⟩, ⟨z1, u1⟩⟩, i1, o1⟩ : Vl) w

set_option maxHeartbeats 1000000 in
theorem vmove_1 (v : Vl) (n : BitVec 64) (hp : Vl.ptr v = false) (w : World) : Calls Try.prog 9 #[.agg #[.int .u8 v.k, .int .u64 (N v.f.t.v), .int .u64 (N v.f.t.m), .int .u64 (N v.f.s.lo), .int .u64 (N v.f.s.hi), .int .i64 v.i, .int .i64 v.off], .int .u64 (N n)] w fun e w' => e = .returned (.tuple #[.agg #[.int .u8 (Vl.move v n).k, .int .u64 (N (Vl.move v n).f.t.v), .int .u64 (N (Vl.move v n).f.t.m), .int .u64 (N (Vl.move v n).f.s.lo), .int .u64 (N (Vl.move v n).f.s.hi), .int .i64 (Vl.move v n).i, .int .i64 (Vl.move v n).off], .bool (Vl.moveOk v n)]) ∧ Below w.heap.size w w' := by
  have E2 : Vl.moveOk v n = false := by simp [Vl.moveOk, *]
  have E1 : Vl.move v n = Vl.zero := by unfold Vl.move; rw [E2]; rfl
  rw [E1, E2]; clear E1 E2
  go_enter Try.func9, Try.ntmps9
  go_wp2_with (first | (go_at_call 16; (with_reducible refine (vptr_c' _ _ _ _ _ _ _ _).mono ?_); rintro e w1 ⟨rfl, hb1⟩; obtain ⟨hc1, hf1, hz1⟩ := bcell hb1; (try simp only [World.size_alloc, World.size_setCell, World.size_drew] at hc1 hf1 hz1)) | (go_at_call 25; (with_reducible refine (reach_c _ _).mono ?_); rintro e w1 ⟨rfl, hb1⟩; obtain ⟨hc1, hf1, hz1⟩ := bcell hb1; (try simp only [World.size_alloc, World.size_setCell, World.size_drew] at hc1 hf1 hz1)))
  refine bodyPost_ret ?_ rfl ⟨rfl, (by repeat' (first | (with_reducible exact Below.refl _ _) | (with_reducible assumption) | (with_reducible refine Below.alloc ?_ ?_ _) | (with_reducible refine Below.setCell ?_ ?_ _) | (with_reducible refine Below.drew ?_) | (with_reducible refine below_dn ?_ _) | (with_reducible refine Below.trans ?_ (Below.mono (by assumption) ?_)) | go_size))⟩
  simp only [results, Try.results9]; simp [*, go_sem, ↓IntWalk.iteOmega, Vl.num, Vl.zero, Vl.join, Vl.move, Fa.zero]; try (first | rfl | exact ⟨rfl, rfl⟩)

set_option maxHeartbeats 1000000 in
theorem vmove_2 (v : Vl) (n : BitVec 64) (hp : Vl.ptr v = true) (hr : Vl.reach n.toInt = false) (w : World) : Calls Try.prog 9 #[.agg #[.int .u8 v.k, .int .u64 (N v.f.t.v), .int .u64 (N v.f.t.m), .int .u64 (N v.f.s.lo), .int .u64 (N v.f.s.hi), .int .i64 v.i, .int .i64 v.off], .int .u64 (N n)] w fun e w' => e = .returned (.tuple #[.agg #[.int .u8 (Vl.move v n).k, .int .u64 (N (Vl.move v n).f.t.v), .int .u64 (N (Vl.move v n).f.t.m), .int .u64 (N (Vl.move v n).f.s.lo), .int .u64 (N (Vl.move v n).f.s.hi), .int .i64 (Vl.move v n).i, .int .i64 (Vl.move v n).off], .bool (Vl.moveOk v n)]) ∧ Below w.heap.size w w' := by
  have E2 : Vl.moveOk v n = false := by simp [Vl.moveOk, *]
  have E1 : Vl.move v n = Vl.zero := by unfold Vl.move; rw [E2]; rfl
  rw [E1, E2]; clear E1 E2
  go_enter Try.func9, Try.ntmps9
  go_wp2_with (first | (go_at_call 16; (with_reducible refine (vptr_c' _ _ _ _ _ _ _ _).mono ?_); rintro e w1 ⟨rfl, hb1⟩; obtain ⟨hc1, hf1, hz1⟩ := bcell hb1; (try simp only [World.size_alloc, World.size_setCell, World.size_drew] at hc1 hf1 hz1)) | (go_at_call 25; (with_reducible refine (reach_c _ _).mono ?_); rintro e w1 ⟨rfl, hb1⟩; obtain ⟨hc1, hf1, hz1⟩ := bcell hb1; (try simp only [World.size_alloc, World.size_setCell, World.size_drew] at hc1 hf1 hz1)))
  refine bodyPost_ret ?_ rfl ⟨rfl, (by repeat' (first | (with_reducible exact Below.refl _ _) | (with_reducible assumption) | (with_reducible refine Below.alloc ?_ ?_ _) | (with_reducible refine Below.setCell ?_ ?_ _) | (with_reducible refine Below.drew ?_) | (with_reducible refine below_dn ?_ _) | (with_reducible refine Below.trans ?_ (Below.mono (by assumption) ?_)) | go_size))⟩
  simp only [results, Try.results9]; simp [*, go_sem, ↓IntWalk.iteOmega, Vl.num, Vl.zero, Vl.join, Vl.move, Fa.zero]; try (first | rfl | exact ⟨rfl, rfl⟩)

set_option maxHeartbeats 1000000 in
theorem vmove_3 (v : Vl) (n : BitVec 64) (hp : Vl.ptr v = true) (hr : Vl.reach n.toInt = true) (hs : Vl.reach (v.off + n.toInt) = false) (w : World) : Calls Try.prog 9 #[.agg #[.int .u8 v.k, .int .u64 (N v.f.t.v), .int .u64 (N v.f.t.m), .int .u64 (N v.f.s.lo), .int .u64 (N v.f.s.hi), .int .i64 v.i, .int .i64 v.off], .int .u64 (N n)] w fun e w' => e = .returned (.tuple #[.agg #[.int .u8 (Vl.move v n).k, .int .u64 (N (Vl.move v n).f.t.v), .int .u64 (N (Vl.move v n).f.t.m), .int .u64 (N (Vl.move v n).f.s.lo), .int .u64 (N (Vl.move v n).f.s.hi), .int .i64 (Vl.move v n).i, .int .i64 (Vl.move v n).off], .bool (Vl.moveOk v n)]) ∧ Below w.heap.size w w' := by
  have E2 : Vl.moveOk v n = false := by simp [Vl.moveOk, *]
  have E1 : Vl.move v n = Vl.zero := by unfold Vl.move; rw [E2]; rfl
  rw [E1, E2]; clear E1 E2
  obtain ⟨b0, b1, b2, b3⟩ := Vl.right_bounds (Vl.ptr_right hp)
  have b4 := Vl.reach_iff.1 hr
  obtain ⟨b4, b5⟩ := b4
  go_enter Try.func9, Try.ntmps9
  go_wp2_with (first | (go_at_call 16; (with_reducible refine (vptr_c' _ _ _ _ _ _ _ _).mono ?_); rintro e w1 ⟨rfl, hb1⟩; obtain ⟨hc1, hf1, hz1⟩ := bcell hb1; (try simp only [World.size_alloc, World.size_setCell, World.size_drew] at hc1 hf1 hz1)) | (go_at_call 25; (with_reducible refine (reach_c _ _).mono ?_); rintro e w1 ⟨rfl, hb1⟩; obtain ⟨hc1, hf1, hz1⟩ := bcell hb1; (try simp only [World.size_alloc, World.size_setCell, World.size_drew] at hc1 hf1 hz1)))
  refine bodyPost_ret ?_ rfl ⟨rfl, (by repeat' (first | (with_reducible exact Below.refl _ _) | (with_reducible assumption) | (with_reducible refine Below.alloc ?_ ?_ _) | (with_reducible refine Below.setCell ?_ ?_ _) | (with_reducible refine Below.drew ?_) | (with_reducible refine below_dn ?_ _) | (with_reducible refine Below.trans ?_ (Below.mono (by assumption) ?_)) | go_size))⟩
  simp only [results, Try.results9]; simp [*, go_sem, ↓IntWalk.iteOmega, Vl.num, Vl.zero, Vl.join, Vl.move, Fa.zero]; try (first | rfl | exact ⟨rfl, rfl⟩)

set_option maxHeartbeats 1000000 in
theorem vmove_4 (v : Vl) (n : BitVec 64) (hp : Vl.ptr v = true) (hr : Vl.reach n.toInt = true) (hs : Vl.reach (v.off + n.toInt) = true) (w : World) : Calls Try.prog 9 #[.agg #[.int .u8 v.k, .int .u64 (N v.f.t.v), .int .u64 (N v.f.t.m), .int .u64 (N v.f.s.lo), .int .u64 (N v.f.s.hi), .int .i64 v.i, .int .i64 v.off], .int .u64 (N n)] w fun e w' => e = .returned (.tuple #[.agg #[.int .u8 (Vl.move v n).k, .int .u64 (N (Vl.move v n).f.t.v), .int .u64 (N (Vl.move v n).f.t.m), .int .u64 (N (Vl.move v n).f.s.lo), .int .u64 (N (Vl.move v n).f.s.hi), .int .i64 (Vl.move v n).i, .int .i64 (Vl.move v n).off], .bool (Vl.moveOk v n)]) ∧ Below w.heap.size w w' := by
  have E2 : Vl.moveOk v n = true := by simp [Vl.moveOk, *]
  have E1 : Vl.move v n = ⟨v.k, v.f, v.i, v.off + n.toInt⟩ := by unfold Vl.move; rw [E2]; rfl
  rw [E1, E2]; clear E1 E2
  obtain ⟨b0, b1, b2, b3⟩ := Vl.right_bounds (Vl.ptr_right hp)
  have b4 := Vl.reach_iff.1 hr
  obtain ⟨b4, b5⟩ := b4
  go_enter Try.func9, Try.ntmps9
  go_wp2_with (first | (go_at_call 16; (with_reducible refine (vptr_c' _ _ _ _ _ _ _ _).mono ?_); rintro e w1 ⟨rfl, hb1⟩; obtain ⟨hc1, hf1, hz1⟩ := bcell hb1; (try simp only [World.size_alloc, World.size_setCell, World.size_drew] at hc1 hf1 hz1)) | (go_at_call 25; (with_reducible refine (reach_c _ _).mono ?_); rintro e w1 ⟨rfl, hb1⟩; obtain ⟨hc1, hf1, hz1⟩ := bcell hb1; (try simp only [World.size_alloc, World.size_setCell, World.size_drew] at hc1 hf1 hz1)))
  refine bodyPost_ret ?_ rfl ⟨rfl, (by repeat' (first | (with_reducible exact Below.refl _ _) | (with_reducible assumption) | (with_reducible refine Below.alloc ?_ ?_ _) | (with_reducible refine Below.setCell ?_ ?_ _) | (with_reducible refine Below.drew ?_) | (with_reducible refine below_dn ?_ _) | (with_reducible refine Below.trans ?_ (Below.mono (by assumption) ?_)) | go_size))⟩
  simp only [results, Try.results9]; simp [*, go_sem, ↓IntWalk.iteOmega, Vl.num, Vl.zero, Vl.join, Vl.move, Fa.zero]; try (first | rfl | exact ⟨rfl, rfl⟩)

theorem vmove_c (v : Vl) (n : BitVec 64) (w : World) : Calls Try.prog 9 #[.agg #[.int .u8 v.k, .int .u64 (N v.f.t.v), .int .u64 (N v.f.t.m), .int .u64 (N v.f.s.lo), .int .u64 (N v.f.s.hi), .int .i64 v.i, .int .i64 v.off], .int .u64 (N n)] w fun e w' => e = .returned (.tuple #[.agg #[.int .u8 (Vl.move v n).k, .int .u64 (N (Vl.move v n).f.t.v), .int .u64 (N (Vl.move v n).f.t.m), .int .u64 (N (Vl.move v n).f.s.lo), .int .u64 (N (Vl.move v n).f.s.hi), .int .i64 (Vl.move v n).i, .int .i64 (Vl.move v n).off], .bool (Vl.moveOk v n)]) ∧ Below w.heap.size w w' := by
  cases hp : Vl.ptr v
  · exact vmove_1 v n hp w
  cases hr : Vl.reach n.toInt
  · exact vmove_2 v n hp hr w
  cases hs : Vl.reach (v.off + n.toInt)
  · exact vmove_3 v n hp hr hs w
  · exact vmove_4 v n hp hr hs w

theorem vmove_c' (k0 : Int) (x0 y0 z0 u0 : BitVec 64) (i0 o0 : Int) (x1 : BitVec 64) (w : World) : Calls Try.prog 9 #[.agg #[.int .u8 k0, .int .u64 (N x0), .int .u64 (N y0), .int .u64 (N z0), .int .u64 (N u0), .int .i64 i0, .int .i64 o0], .int .u64 (N x1)] w fun e w' => e = .returned (.tuple #[.agg #[.int .u8 (Vl.move (⟨k0, ⟨⟨x0, y0⟩, ⟨z0, u0⟩⟩, i0, o0⟩ : Vl) x1).k, .int .u64 (N (Vl.move (⟨k0, ⟨⟨x0, y0⟩, ⟨z0, u0⟩⟩, i0, o0⟩ : Vl) x1).f.t.v), .int .u64 (N (Vl.move (⟨k0, ⟨⟨x0, y0⟩, ⟨z0, u0⟩⟩, i0, o0⟩ : Vl) x1).f.t.m), .int .u64 (N (Vl.move (⟨k0, ⟨⟨x0, y0⟩, ⟨z0, u0⟩⟩, i0, o0⟩ : Vl) x1).f.s.lo), .int .u64 (N (Vl.move (⟨k0, ⟨⟨x0, y0⟩, ⟨z0, u0⟩⟩, i0, o0⟩ : Vl) x1).f.s.hi), .int .i64 (Vl.move (⟨k0, ⟨⟨x0, y0⟩, ⟨z0, u0⟩⟩, i0, o0⟩ : Vl) x1).i, .int .i64 (Vl.move (⟨k0, ⟨⟨x0, y0⟩, ⟨z0, u0⟩⟩, i0, o0⟩ : Vl) x1).off], .bool (Vl.moveOk (⟨k0, ⟨⟨x0, y0⟩, ⟨z0, u0⟩⟩, i0, o0⟩ : Vl) x1)]) ∧ Below w.heap.size w w' := by
  exact vmove_c (⟨k0, ⟨⟨x0, y0⟩, ⟨z0, u0⟩⟩, i0, o0⟩ : Vl) x1 w

end Hk
