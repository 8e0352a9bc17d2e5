/- The reference of registers: Within, Join, Move; old memory is as it was. No condition but those in each statement. -/
import Derived.Test.YtnngchpbblehfaaProg
import Derived.Test.YtnngchpbblehfaaGp
import Derived.Test.YtnngchpbblehfaaVl
import Derived.Test.YtnngchpbblehfaaVl5
import Derived.Test.YtnngchpbblehfaaVl10
import Derived.Test.YtnngchpbblehfaaVl11
import Derived.Test.YtnngchpbblehfaaGx
import Derived.Test.YtnngchpbblehfaaFr5
import Derived.Deep.DeepCutAuto
namespace Hk
open Go Go.RowKit Go.Proofs
set_option linter.unusedSimpArgs false
set_option linter.unusedVariables false
set_option maxRecDepth 100000
attribute [go_sem] Tn.eta Sp.eta Fa.eta Vl.eta
/-- where memory is, and so many bytes further: it may be known just if the offset may be told -/
theorem Vl.right_moved {v : Vl} (h : Vl.ptr v = true) (o : Int) : Vl.right ⟨v.k, v.f, v.i, o⟩ = Vl.reach o := by
  obtain ⟨k, f, i, off⟩ := v
  unfold Vl.ptr at h
  simp only [Bool.and_eq_true, Bool.or_eq_true, decide_eq_true_eq] at h
  obtain ⟨hk, hr⟩ := h
  unfold Vl.right at hr ⊢
  rcases hk with (rfl | rfl) | rfl <;> simp at hr ⊢ <;> simp [hr]

theorem rvwithin_n1 (a b : Vl) (ra : Vl.right a = false) (w : World) : Calls Try.prog 22 #[.agg #[.int .u8 a.k, .int .u64 (N a.f.t.v), .int .u64 (N a.f.t.m), .int .u64 (N a.f.s.lo), .int .u64 (N a.f.s.hi), .int .i64 a.i, .int .i64 a.off], .agg #[.int .u8 b.k, .int .u64 (N b.f.t.v), .int .u64 (N b.f.t.m), .int .u64 (N b.f.s.lo), .int .u64 (N b.f.s.hi), .int .i64 b.i, .int .i64 b.off]] w fun e w' => e = .returned (.bool (Vl.within a b)) ∧ Below w.heap.size w w' := by
  go_enter Try.func22, Try.ntmps22
  go_wp2_with (first | (go_at_call 13; (with_reducible refine (rvright_c' _ _ _ _ _ _ _ _).mono ?_); rintro e w1 ⟨rfl, hb1⟩; obtain ⟨hc1, hf1, hz1⟩ := bcell hb1; (try simp only [World.size_alloc, World.size_setCell, World.size_drew] at hc1 hf1 hz1)))
  go_ret
  exact ⟨by simp [Vl.within, *], (by repeat' (first | (with_reducible exact Below.refl _ _) | (with_reducible assumption) | (with_reducible refine Below.alloc ?_ ?_ _) | (with_reducible refine Below.setCell ?_ ?_ _) | (with_reducible refine Below.drew ?_) | (with_reducible refine below_dn ?_ _) | (with_reducible refine Below.trans ?_ (Below.mono (by assumption) ?_)) | go_size))⟩

theorem rvwithin_n2 (a b : Vl) (ra : Vl.right a = true) (rb : Vl.right b = false) (w : World) : Calls Try.prog 22 #[.agg #[.int .u8 a.k, .int .u64 (N a.f.t.v), .int .u64 (N a.f.t.m), .int .u64 (N a.f.s.lo), .int .u64 (N a.f.s.hi), .int .i64 a.i, .int .i64 a.off], .agg #[.int .u8 b.k, .int .u64 (N b.f.t.v), .int .u64 (N b.f.t.m), .int .u64 (N b.f.s.lo), .int .u64 (N b.f.s.hi), .int .i64 b.i, .int .i64 b.off]] w fun e w' => e = .returned (.bool (Vl.within a b)) ∧ Below w.heap.size w w' := by
  go_enter Try.func22, Try.ntmps22
  go_wp2_with (first | (go_at_call 13; (with_reducible refine (rvright_c' _ _ _ _ _ _ _ _).mono ?_); rintro e w1 ⟨rfl, hb1⟩; obtain ⟨hc1, hf1, hz1⟩ := bcell hb1; (try simp only [World.size_alloc, World.size_setCell, World.size_drew] at hc1 hf1 hz1)))
  go_ret
  exact ⟨by simp [Vl.within, *], (by repeat' (first | (with_reducible exact Below.refl _ _) | (with_reducible assumption) | (with_reducible refine Below.alloc ?_ ?_ _) | (with_reducible refine Below.setCell ?_ ?_ _) | (with_reducible refine Below.drew ?_) | (with_reducible refine below_dn ?_ _) | (with_reducible refine Below.trans ?_ (Below.mono (by assumption) ?_)) | go_size))⟩

set_option maxHeartbeats 4000000 in
theorem rvwithin_in (a b : Vl) (ra : Vl.right a = true) (rb : Vl.right b = true) (w : World) : Calls Try.prog 22 #[.agg #[.int .u8 a.k, .int .u64 (N a.f.t.v), .int .u64 (N a.f.t.m), .int .u64 (N a.f.s.lo), .int .u64 (N a.f.s.hi), .int .i64 a.i, .int .i64 a.off], .agg #[.int .u8 b.k, .int .u64 (N b.f.t.v), .int .u64 (N b.f.t.m), .int .u64 (N b.f.s.lo), .int .u64 (N b.f.s.hi), .int .i64 b.i, .int .i64 b.off]] w fun e w' => e = .returned (.bool (Vl.within a b)) ∧ Below w.heap.size w w' := by
  go_enter Try.func22, Try.ntmps22
  go_upto_region 3 with (first | (go_at_call 13; (with_reducible refine (rvright_c' _ _ _ _ _ _ _ _).mono ?_); rintro e w1 ⟨rfl, hb1⟩; obtain ⟨hc1, hf1, hz1⟩ := bcell hb1; (try simp only [World.size_alloc, World.size_setCell, World.size_drew] at hc1 hf1 hz1)))
  by_cases h1 : a.k = 1 <;> by_cases h2 : b.k = 1
  · go_wp2_with (first | (go_at_call 36; (with_reducible refine (rfwithin_c' _ _ _ _ _ _ _ _ _).mono ?_); rintro e w1 ⟨rfl, hb1⟩; obtain ⟨hc1, hf1, hz1⟩ := bcell hb1; (try simp only [World.size_alloc, World.size_setCell, World.size_drew] at hc1 hf1 hz1)))
    (go_ret; exact ⟨by simp [Vl.within, Vl.eq_iff, *], (by repeat' (first | (with_reducible exact Below.refl _ _) | (with_reducible assumption) | (with_reducible refine Below.alloc ?_ ?_ _) | (with_reducible refine Below.setCell ?_ ?_ _) | (with_reducible refine Below.drew ?_) | (with_reducible refine below_dn ?_ _) | (with_reducible refine Below.trans ?_ (Below.mono (by assumption) ?_)) | go_size))⟩)
  all_goals (go_wp2; all_goals (go_ret; exact ⟨by simp [Vl.within, Vl.eq_iff, *], (by repeat' (first | (with_reducible exact Below.refl _ _) | (with_reducible assumption) | (with_reducible refine Below.alloc ?_ ?_ _) | (with_reducible refine Below.setCell ?_ ?_ _) | (with_reducible refine Below.drew ?_) | (with_reducible refine below_dn ?_ _) | (with_reducible refine Below.trans ?_ (Below.mono (by assumption) ?_)) | go_size))⟩))

theorem rvwithin_c (a b : Vl) (w : World) : Calls Try.prog 22 #[.agg #[.int .u8 a.k, .int .u64 (N a.f.t.v), .int .u64 (N a.f.t.m), .int .u64 (N a.f.s.lo), .int .u64 (N a.f.s.hi), .int .i64 a.i, .int .i64 a.off], .agg #[.int .u8 b.k, .int .u64 (N b.f.t.v), .int .u64 (N b.f.t.m), .int .u64 (N b.f.s.lo), .int .u64 (N b.f.s.hi), .int .i64 b.i, .int .i64 b.off]] w fun e w' => e = .returned (.bool (Vl.within a b)) ∧ Below w.heap.size w w' := by
  cases ra : Vl.right a
  · exact rvwithin_n1 a b ra w
  cases rb : Vl.right b
  · exact rvwithin_n2 a b ra rb w
  exact rvwithin_in a b ra rb w

theorem rvwithin_c' (k0 : Int) (x0 y0 z0 u0 : BitVec 64) (i0 o0 : Int) (k1 : Int) (x1 y1 z1 u1 : BitVec 64) (i1 o1 : Int) (w : World) : Calls Try.prog 22 #[.agg #[.int .u8 k0, .int .u64 (N x0), .int .u64 (N y0), .int .u64 (N z0), .int .u64 (N u0), .int .i64 i0, .int .i64 o0], .agg #[.int .u8 k1, .int .u64 (N x1), .int .u64 (N y1), .int .u64 (N z1), .int .u64 (N u1), .int .i64 i1, .int .i64 o1]] w fun e w' => e = .returned (.bool (Vl.within (⟨k0, ⟨⟨x0, y0⟩, ⟨z0, u0⟩⟩, i0, o0⟩ : Vl) (⟨k1, ⟨⟨x1, y1⟩, ⟨z1, u1⟩⟩, i1, o1⟩ : Vl))) ∧ Below w.heap.size w w' := by
  exact rvwithin_c (⟨k0, ⟨⟨x0, y0⟩, ⟨z0, u0⟩⟩, i0, o0⟩ : Vl) (⟨k1, ⟨⟨x1, y1⟩, ⟨z1, u1⟩⟩, i1, o1⟩ : Vl) w

theorem rvjoin_n1 (a b : Vl) (ra : Vl.right a = false) (w : World) : Calls Try.prog 24 #[.agg #[.int .u8 a.k, .int .u64 (N a.f.t.v), .int .u64 (N a.f.t.m), .int .u64 (N a.f.s.lo), .int .u64 (N a.f.s.hi), .int .i64 a.i, .int .i64 a.off], .agg #[.int .u8 b.k, .int .u64 (N b.f.t.v), .int .u64 (N b.f.t.m), .int .u64 (N b.f.s.lo), .int .u64 (N b.f.s.hi), .int .i64 b.i, .int .i64 b.off]] w fun e w' => e = .returned (.agg #[.int .u8 (Vl.join a b).k, .int .u64 (N (Vl.join a b).f.t.v), .int .u64 (N (Vl.join a b).f.t.m), .int .u64 (N (Vl.join a b).f.s.lo), .int .u64 (N (Vl.join a b).f.s.hi), .int .i64 (Vl.join a b).i, .int .i64 (Vl.join a b).off]) ∧ Below w.heap.size w w' := by
  have E : Vl.join a b = Vl.zero := by simp [Vl.join, *]
  rw [E]; clear E
  go_enter Try.func24, Try.ntmps24
  go_wp2_with (first | (go_at_call 13; (with_reducible refine (rvright_c' _ _ _ _ _ _ _ _).mono ?_); rintro e w1 ⟨rfl, hb1⟩; obtain ⟨hc1, hf1, hz1⟩ := bcell hb1; (try simp only [World.size_alloc, World.size_setCell, World.size_drew] at hc1 hf1 hz1)))
  refine bodyPost_ret ?_ rfl ⟨rfl, (by repeat' (first | (with_reducible exact Below.refl _ _) | (with_reducible assumption) | (with_reducible refine Below.alloc ?_ ?_ _) | (with_reducible refine Below.setCell ?_ ?_ _) | (with_reducible refine Below.drew ?_) | (with_reducible refine below_dn ?_ _) | (with_reducible refine Below.trans ?_ (Below.mono (by assumption) ?_)) | go_size))⟩
  simp only [results, Try.results24]; simp [*, go_sem, ↓IntWalk.iteOmega, Vl.num, Vl.zero, Vl.join, Vl.move, Fa.zero]; try (first | rfl | exact ⟨rfl, rfl⟩)

theorem rvjoin_n2 (a b : Vl) (ra : Vl.right a = true) (rb : Vl.right b = false) (w : World) : Calls Try.prog 24 #[.agg #[.int .u8 a.k, .int .u64 (N a.f.t.v), .int .u64 (N a.f.t.m), .int .u64 (N a.f.s.lo), .int .u64 (N a.f.s.hi), .int .i64 a.i, .int .i64 a.off], .agg #[.int .u8 b.k, .int .u64 (N b.f.t.v), .int .u64 (N b.f.t.m), .int .u64 (N b.f.s.lo), .int .u64 (N b.f.s.hi), .int .i64 b.i, .int .i64 b.off]] w fun e w' => e = .returned (.agg #[.int .u8 (Vl.join a b).k, .int .u64 (N (Vl.join a b).f.t.v), .int .u64 (N (Vl.join a b).f.t.m), .int .u64 (N (Vl.join a b).f.s.lo), .int .u64 (N (Vl.join a b).f.s.hi), .int .i64 (Vl.join a b).i, .int .i64 (Vl.join a b).off]) ∧ Below w.heap.size w w' := by
  have E : Vl.join a b = Vl.zero := by simp [Vl.join, *]
  rw [E]; clear E
  go_enter Try.func24, Try.ntmps24
  go_wp2_with (first | (go_at_call 13; (with_reducible refine (rvright_c' _ _ _ _ _ _ _ _).mono ?_); rintro e w1 ⟨rfl, hb1⟩; obtain ⟨hc1, hf1, hz1⟩ := bcell hb1; (try simp only [World.size_alloc, World.size_setCell, World.size_drew] at hc1 hf1 hz1)))
  refine bodyPost_ret ?_ rfl ⟨rfl, (by repeat' (first | (with_reducible exact Below.refl _ _) | (with_reducible assumption) | (with_reducible refine Below.alloc ?_ ?_ _) | (with_reducible refine Below.setCell ?_ ?_ _) | (with_reducible refine Below.drew ?_) | (with_reducible refine below_dn ?_ _) | (with_reducible refine Below.trans ?_ (Below.mono (by assumption) ?_)) | go_size))⟩
  simp only [results, Try.results24]; simp [*, go_sem, ↓IntWalk.iteOmega, Vl.num, Vl.zero, Vl.join, Vl.move, Fa.zero]; try (first | rfl | exact ⟨rfl, rfl⟩)

theorem rvjoin_num (a b : Vl) (ra : Vl.right a = true) (rb : Vl.right b = true) (h1 : a.k = 1) (h2 : b.k = 1) (w : World) : Calls Try.prog 24 #[.agg #[.int .u8 a.k, .int .u64 (N a.f.t.v), .int .u64 (N a.f.t.m), .int .u64 (N a.f.s.lo), .int .u64 (N a.f.s.hi), .int .i64 a.i, .int .i64 a.off], .agg #[.int .u8 b.k, .int .u64 (N b.f.t.v), .int .u64 (N b.f.t.m), .int .u64 (N b.f.s.lo), .int .u64 (N b.f.s.hi), .int .i64 b.i, .int .i64 b.off]] w fun e w' => e = .returned (.agg #[.int .u8 (Vl.join a b).k, .int .u64 (N (Vl.join a b).f.t.v), .int .u64 (N (Vl.join a b).f.t.m), .int .u64 (N (Vl.join a b).f.s.lo), .int .u64 (N (Vl.join a b).f.s.hi), .int .i64 (Vl.join a b).i, .int .i64 (Vl.join a b).off]) ∧ Below w.heap.size w w' := by
  have E : Vl.join a b = Vl.num (Fa.join a.f b.f) := by simp [Vl.join, *]
  rw [E]; clear E
  have h1' := Lib.hid h1
  have h2' := Lib.hid h2
  clear h1 h2
  go_enter Try.func24, Try.ntmps24
  go_upto_region 3 with (first | (go_at_call 13; (with_reducible refine (rvright_c' _ _ _ _ _ _ _ _).mono ?_); rintro e w1 ⟨rfl, hb1⟩; obtain ⟨hc1, hf1, hz1⟩ := bcell hb1; (try simp only [World.size_alloc, World.size_setCell, World.size_drew] at hc1 hf1 hz1)))
  have h1 := h1'.out
  have h2 := h2'.out
  go_wp2_with (first | (go_at_call 38; (with_reducible refine (rfjoin_c' _ _ _ _ _ _ _ _ _).mono ?_); rintro e w1 ⟨rfl, hb1⟩; obtain ⟨hc1, hf1, hz1⟩ := bcell hb1; (try simp only [World.size_alloc, World.size_setCell, World.size_drew] at hc1 hf1 hz1)) | (go_at_call 15; (with_reducible refine (rvnum_c' _ _ _ _ _).mono ?_); rintro e w1 ⟨rfl, hb1⟩; obtain ⟨hc1, hf1, hz1⟩ := bcell hb1; (try simp only [World.size_alloc, World.size_setCell, World.size_drew] at hc1 hf1 hz1)))
  refine bodyPost_ret ?_ rfl ⟨rfl, (by repeat' (first | (with_reducible exact Below.refl _ _) | (with_reducible assumption) | (with_reducible refine Below.alloc ?_ ?_ _) | (with_reducible refine Below.setCell ?_ ?_ _) | (with_reducible refine Below.drew ?_) | (with_reducible refine below_dn ?_ _) | (with_reducible refine Below.trans ?_ (Below.mono (by assumption) ?_)) | go_size))⟩
  simp only [results, Try.results24]; simp [*, go_sem, ↓IntWalk.iteOmega, Vl.num, Vl.zero, Vl.join, Vl.move, Fa.zero]; try (first | rfl | exact ⟨rfl, rfl⟩)

set_option maxHeartbeats 4000000 in
theorem rvjoin_same (a b : Vl) (ra : Vl.right a = true) (rb : Vl.right b = true) (hn : ¬ (a.k = 1 ∧ b.k = 1)) (hab : a = b) (w : World) : Calls Try.prog 24 #[.agg #[.int .u8 a.k, .int .u64 (N a.f.t.v), .int .u64 (N a.f.t.m), .int .u64 (N a.f.s.lo), .int .u64 (N a.f.s.hi), .int .i64 a.i, .int .i64 a.off], .agg #[.int .u8 b.k, .int .u64 (N b.f.t.v), .int .u64 (N b.f.t.m), .int .u64 (N b.f.s.lo), .int .u64 (N b.f.s.hi), .int .i64 b.i, .int .i64 b.off]] w fun e w' => e = .returned (.agg #[.int .u8 (Vl.join a b).k, .int .u64 (N (Vl.join a b).f.t.v), .int .u64 (N (Vl.join a b).f.t.m), .int .u64 (N (Vl.join a b).f.s.lo), .int .u64 (N (Vl.join a b).f.s.hi), .int .i64 (Vl.join a b).i, .int .i64 (Vl.join a b).off]) ∧ Below w.heap.size w w' := by
  have E : Vl.join a b = a := by simp only [Vl.join, ra, rb, Bool.and_self, if_true]; rw [if_neg hn]; rw [if_pos hab]
  rw [E]; clear E
  subst hab
  have hn' := Lib.hid hn
  clear hn
  go_enter Try.func24, Try.ntmps24
  go_upto_region 3 with (first | (go_at_call 13; (with_reducible refine (rvright_c' _ _ _ _ _ _ _ _).mono ?_); rintro e w1 ⟨rfl, hb1⟩; obtain ⟨hc1, hf1, hz1⟩ := bcell hb1; (try simp only [World.size_alloc, World.size_setCell, World.size_drew] at hc1 hf1 hz1)))
  have h1 : ¬ a.k = 1 := fun e => hn'.out ⟨e, e⟩
  go_wp2
  refine bodyPost_ret ?_ rfl ⟨rfl, (by repeat' (first | (with_reducible exact Below.refl _ _) | (with_reducible assumption) | (with_reducible refine Below.alloc ?_ ?_ _) | (with_reducible refine Below.setCell ?_ ?_ _) | (with_reducible refine Below.drew ?_) | (with_reducible refine below_dn ?_ _) | (with_reducible refine Below.trans ?_ (Below.mono (by assumption) ?_)) | go_size))⟩
  simp only [results, Try.results24]; simp [*, go_sem, ↓IntWalk.iteOmega, Vl.num, Vl.zero, Vl.join, Vl.move, Fa.zero]; try (first | rfl | exact ⟨rfl, rfl⟩)

set_option maxHeartbeats 4000000 in
theorem rvjoin_no (a b : Vl) (ra : Vl.right a = true) (rb : Vl.right b = true) (hn : ¬ (a.k = 1 ∧ b.k = 1)) (hab : ¬ a = b) (w : World) : Calls Try.prog 24 #[.agg #[.int .u8 a.k, .int .u64 (N a.f.t.v), .int .u64 (N a.f.t.m), .int .u64 (N a.f.s.lo), .int .u64 (N a.f.s.hi), .int .i64 a.i, .int .i64 a.off], .agg #[.int .u8 b.k, .int .u64 (N b.f.t.v), .int .u64 (N b.f.t.m), .int .u64 (N b.f.s.lo), .int .u64 (N b.f.s.hi), .int .i64 b.i, .int .i64 b.off]] w fun e w' => e = .returned (.agg #[.int .u8 (Vl.join a b).k, .int .u64 (N (Vl.join a b).f.t.v), .int .u64 (N (Vl.join a b).f.t.m), .int .u64 (N (Vl.join a b).f.s.lo), .int .u64 (N (Vl.join a b).f.s.hi), .int .i64 (Vl.join a b).i, .int .i64 (Vl.join a b).off]) ∧ Below w.heap.size w w' := by
  have E : Vl.join a b = Vl.zero := by simp only [Vl.join, ra, rb, Bool.and_self, if_true]; rw [if_neg hn]; rw [if_neg hab]
  rw [E]; clear E
  have hn' := Lib.hid hn
  clear hn
  have hab' := Lib.hid hab
  clear hab
  go_enter Try.func24, Try.ntmps24
  go_upto_region 3 with (first | (go_at_call 13; (with_reducible refine (rvright_c' _ _ _ _ _ _ _ _).mono ?_); rintro e w1 ⟨rfl, hb1⟩; obtain ⟨hc1, hf1, hz1⟩ := bcell hb1; (try simp only [World.size_alloc, World.size_setCell, World.size_drew] at hc1 hf1 hz1)))
  have hab := hab'.out
  clear hab'
  by_cases h1 : a.k = 1 <;> by_cases h2 : b.k = 1
  · exact absurd ⟨h1, h2⟩ hn'.out
  all_goals (go_wp2; all_goals (first | (exact absurd (Vl.eq_iff.2 ⟨by assumption, by assumption, by assumption, by assumption, by assumption, by assumption, by assumption⟩) hab) | (refine bodyPost_ret ?_ rfl ⟨rfl, (by repeat' (first | (with_reducible exact Below.refl _ _) | (with_reducible assumption) | (with_reducible refine Below.alloc ?_ ?_ _) | (with_reducible refine Below.setCell ?_ ?_ _) | (with_reducible refine Below.drew ?_) | (with_reducible refine below_dn ?_ _) | (with_reducible refine Below.trans ?_ (Below.mono (by assumption) ?_)) | go_size))⟩; simp only [results, Try.results24]; simp [*, go_sem, ↓IntWalk.iteOmega, Vl.num, Vl.zero, Vl.join, Vl.move, Fa.zero]; try (first | rfl | exact ⟨rfl, rfl⟩))))

theorem rvjoin_c (a b : Vl) (w : World) : Calls Try.prog 24 #[.agg #[.int .u8 a.k, .int .u64 (N a.f.t.v), .int .u64 (N a.f.t.m), .int .u64 (N a.f.s.lo), .int .u64 (N a.f.s.hi), .int .i64 a.i, .int .i64 a.off], .agg #[.int .u8 b.k, .int .u64 (N b.f.t.v), .int .u64 (N b.f.t.m), .int .u64 (N b.f.s.lo), .int .u64 (N b.f.s.hi), .int .i64 b.i, .int .i64 b.off]] w fun e w' => e = .returned (.agg #[.int .u8 (Vl.join a b).k, .int .u64 (N (Vl.join a b).f.t.v), .int .u64 (N (Vl.join a b).f.t.m), .int .u64 (N (Vl.join a b).f.s.lo), .int .u64 (N (Vl.join a b).f.s.hi), .int .i64 (Vl.join a b).i, .int .i64 (Vl.join a b).off]) ∧ Below w.heap.size w w' := by
  cases ra : Vl.right a
  · exact rvjoin_n1 a b ra w
  cases rb : Vl.right b
  · exact rvjoin_n2 a b ra rb w
  by_cases hn : a.k = 1 ∧ b.k = 1
  · exact rvjoin_num a b ra rb hn.1 hn.2 w
  by_cases hab : a = b
  · exact rvjoin_same a b ra rb hn hab w
  · exact rvjoin_no a b ra rb hn hab w

theorem rvjoin_c' (k0 : Int) (x0 y0 z0 u0 : BitVec 64) (i0 o0 : Int) (k1 : Int) (x1 y1 z1 u1 : BitVec 64) (i1 o1 : Int) (w : World) : Calls Try.prog 24 #[.agg #[.int .u8 k0, .int .u64 (N x0), .int .u64 (N y0), .int .u64 (N z0), .int .u64 (N u0), .int .i64 i0, .int .i64 o0], .agg #[.int .u8 k1, .int .u64 (N x1), .int .u64 (N y1), .int .u64 (N z1), .int .u64 (N u1), .int .i64 i1, .int .i64 o1]] w fun e w' => e = .returned (.agg #[.int .u8 (Vl.join (⟨k0, ⟨⟨x0, y0⟩, ⟨z0, u0⟩⟩, i0, o0⟩ : Vl) (⟨k1, ⟨⟨x1, y1⟩, ⟨z1, u1⟩⟩, i1, o1⟩ : Vl)).k, .int .u64 (N (Vl.join (⟨k0, ⟨⟨x0, y0⟩, ⟨z0, u0⟩⟩, i0, o0⟩ : Vl) (⟨k1, ⟨⟨x1, y1⟩, ⟨z1, u1⟩⟩, i1, o1⟩ : Vl)).f.t.v), .int .u64 (N (Vl.join (⟨k0, ⟨⟨x0, y0⟩, ⟨z0, u0⟩⟩, i0, o0⟩ : Vl) (⟨k1, ⟨⟨x1, y1⟩, ⟨z1, u1⟩⟩, i1, o1⟩ : Vl)).f.t.m), .int .u64 (N (Vl.join (⟨k0, ⟨⟨x0, y0⟩, ⟨z0, u0⟩⟩, i0, o0⟩ : Vl) (⟨k1, ⟨⟨x1, y1⟩, ⟨z1, u1⟩⟩, i1, o1⟩ : Vl)).f.s.lo), .int .u64 (N (Vl.join (⟨k0, ⟨⟨x0, y0⟩, ⟨z0, u0⟩⟩, i0, o0⟩ : Vl) (⟨k1, ⟨⟨x1, y1⟩, ⟨z1, u1⟩⟩, i1, o1⟩ : Vl)).f.s.hi), .int .i64 (Vl.join (⟨k0, ⟨⟨x0, y0⟩, ⟨z0, u0⟩⟩, i0, o0⟩ : Vl) (⟨k1, ⟨⟨x1, y1⟩, ⟨z1, u1⟩⟩, i1, o1⟩ : Vl)).i, .int .i64 (Vl.join (⟨k0, ⟨⟨x0, y0⟩, ⟨z0, u0⟩⟩, i0, o0⟩ : Vl) (⟨k1, ⟨⟨x1, y1⟩, ⟨z1, u1⟩⟩, i1, o1⟩ : Vl)).off]) ∧ Below w.heap.size w w' := by
  exact rvjoin_c (⟨k0, ⟨⟨x0, y0⟩, ⟨z0, u0⟩⟩, i0, o0⟩ : Vl) (⟨k1, ⟨⟨x1, y1⟩, ⟨z1, u1⟩⟩, i1, o1⟩ : Vl) w

set_option maxHeartbeats 1000000 in
theorem rvmove_1 (v : Vl) (n : BitVec 64) (hp : Vl.ptr v = false) (w : World) : Calls Try.prog 10 #[.agg #[.int .u8 v.k, .int .u64 (N v.f.t.v), .int .u64 (N v.f.t.m), .int .u64 (N v.f.s.lo), .int .u64 (N v.f.s.hi), .int .i64 v.i, .int .i64 v.off], .int .u64 (N n)] w fun e w' => e = .returned (.tuple #[.agg #[.int .u8 (Vl.move v n).k, .int .u64 (N (Vl.move v n).f.t.v), .int .u64 (N (Vl.move v n).f.t.m), .int .u64 (N (Vl.move v n).f.s.lo), .int .u64 (N (Vl.move v n).f.s.hi), .int .i64 (Vl.move v n).i, .int .i64 (Vl.move v n).off], .bool (Vl.moveOk v n)]) ∧ Below w.heap.size w w' := by
  have E2 : Vl.moveOk v n = false := by simp [Vl.moveOk, Vl.reach, *]
  have E1 : Vl.move v n = Vl.zero := by unfold Vl.move; rw [E2]; rfl
  rw [E1, E2]; clear E1 E2
  go_enter Try.func10, Try.ntmps10
  go_wp2_with (first | (go_at_call 17; (with_reducible refine (rvptr_c' _ _ _ _ _ _ _ _).mono ?_); rintro e w1 ⟨rfl, hb1⟩; obtain ⟨hc1, hf1, hz1⟩ := bcell hb1; (try simp only [World.size_alloc, World.size_setCell, World.size_drew] at hc1 hf1 hz1)) | (go_at_call 13; (with_reducible refine (rvright_c' _ _ _ _ _ _ _ _).mono ?_); rintro e w1 ⟨rfl, hb1⟩; obtain ⟨hc1, hf1, hz1⟩ := bcell hb1; (try simp only [World.size_alloc, World.size_setCell, World.size_drew] at hc1 hf1 hz1)))
  refine bodyPost_ret ?_ rfl ⟨rfl, (by repeat' (first | (with_reducible exact Below.refl _ _) | (with_reducible assumption) | (with_reducible refine Below.alloc ?_ ?_ _) | (with_reducible refine Below.setCell ?_ ?_ _) | (with_reducible refine Below.drew ?_) | (with_reducible refine below_dn ?_ _) | (with_reducible refine Below.trans ?_ (Below.mono (by assumption) ?_)) | go_size))⟩
  simp only [results, Try.results10]; simp [*, go_sem, ↓IntWalk.iteOmega, Vl.num, Vl.zero, Vl.join, Vl.move, Fa.zero]; try (first | rfl | exact ⟨rfl, rfl⟩)

set_option maxHeartbeats 1000000 in
theorem rvmove_2a (v : Vl) (n : BitVec 64) (hp : Vl.ptr v = true) (r1 : decide (n.toInt < -1048576) = true) (w : World) : Calls Try.prog 10 #[.agg #[.int .u8 v.k, .int .u64 (N v.f.t.v), .int .u64 (N v.f.t.m), .int .u64 (N v.f.s.lo), .int .u64 (N v.f.s.hi), .int .i64 v.i, .int .i64 v.off], .int .u64 (N n)] w fun e w' => e = .returned (.tuple #[.agg #[.int .u8 (Vl.move v n).k, .int .u64 (N (Vl.move v n).f.t.v), .int .u64 (N (Vl.move v n).f.t.m), .int .u64 (N (Vl.move v n).f.s.lo), .int .u64 (N (Vl.move v n).f.s.hi), .int .i64 (Vl.move v n).i, .int .i64 (Vl.move v n).off], .bool (Vl.moveOk v n)]) ∧ Below w.heap.size w w' := by
  have E2 : Vl.moveOk v n = false := by have := of_decide_eq_true r1; simp [Vl.moveOk, Vl.reach, hp]; omega
  have E1 : Vl.move v n = Vl.zero := by unfold Vl.move; rw [E2]; rfl
  rw [E1, E2]; clear E1 E2
  go_enter Try.func10, Try.ntmps10
  go_wp2_with (first | (go_at_call 17; (with_reducible refine (rvptr_c' _ _ _ _ _ _ _ _).mono ?_); rintro e w1 ⟨rfl, hb1⟩; obtain ⟨hc1, hf1, hz1⟩ := bcell hb1; (try simp only [World.size_alloc, World.size_setCell, World.size_drew] at hc1 hf1 hz1)) | (go_at_call 13; (with_reducible refine (rvright_c' _ _ _ _ _ _ _ _).mono ?_); rintro e w1 ⟨rfl, hb1⟩; obtain ⟨hc1, hf1, hz1⟩ := bcell hb1; (try simp only [World.size_alloc, World.size_setCell, World.size_drew] at hc1 hf1 hz1)))
  refine bodyPost_ret ?_ rfl ⟨rfl, (by repeat' (first | (with_reducible exact Below.refl _ _) | (with_reducible assumption) | (with_reducible refine Below.alloc ?_ ?_ _) | (with_reducible refine Below.setCell ?_ ?_ _) | (with_reducible refine Below.drew ?_) | (with_reducible refine below_dn ?_ _) | (with_reducible refine Below.trans ?_ (Below.mono (by assumption) ?_)) | go_size))⟩
  simp only [results, Try.results10]; simp [*, go_sem, ↓IntWalk.iteOmega, Vl.num, Vl.zero, Vl.join, Vl.move, Fa.zero]; try (first | rfl | exact ⟨rfl, rfl⟩)

set_option maxHeartbeats 1000000 in
theorem rvmove_2b (v : Vl) (n : BitVec 64) (hp : Vl.ptr v = true) (r1 : decide (n.toInt < -1048576) = false) (r2 : decide (1048576 < n.toInt) = true) (w : World) : Calls Try.prog 10 #[.agg #[.int .u8 v.k, .int .u64 (N v.f.t.v), .int .u64 (N v.f.t.m), .int .u64 (N v.f.s.lo), .int .u64 (N v.f.s.hi), .int .i64 v.i, .int .i64 v.off], .int .u64 (N n)] w fun e w' => e = .returned (.tuple #[.agg #[.int .u8 (Vl.move v n).k, .int .u64 (N (Vl.move v n).f.t.v), .int .u64 (N (Vl.move v n).f.t.m), .int .u64 (N (Vl.move v n).f.s.lo), .int .u64 (N (Vl.move v n).f.s.hi), .int .i64 (Vl.move v n).i, .int .i64 (Vl.move v n).off], .bool (Vl.moveOk v n)]) ∧ Below w.heap.size w w' := by
  have E2 : Vl.moveOk v n = false := by have := of_decide_eq_true r2; simp [Vl.moveOk, Vl.reach, hp]; omega
  have E1 : Vl.move v n = Vl.zero := by unfold Vl.move; rw [E2]; rfl
  rw [E1, E2]; clear E1 E2
  go_enter Try.func10, Try.ntmps10
  go_wp2_with (first | (go_at_call 17; (with_reducible refine (rvptr_c' _ _ _ _ _ _ _ _).mono ?_); rintro e w1 ⟨rfl, hb1⟩; obtain ⟨hc1, hf1, hz1⟩ := bcell hb1; (try simp only [World.size_alloc, World.size_setCell, World.size_drew] at hc1 hf1 hz1)) | (go_at_call 13; (with_reducible refine (rvright_c' _ _ _ _ _ _ _ _).mono ?_); rintro e w1 ⟨rfl, hb1⟩; obtain ⟨hc1, hf1, hz1⟩ := bcell hb1; (try simp only [World.size_alloc, World.size_setCell, World.size_drew] at hc1 hf1 hz1)))
  refine bodyPost_ret ?_ rfl ⟨rfl, (by repeat' (first | (with_reducible exact Below.refl _ _) | (with_reducible assumption) | (with_reducible refine Below.alloc ?_ ?_ _) | (with_reducible refine Below.setCell ?_ ?_ _) | (with_reducible refine Below.drew ?_) | (with_reducible refine below_dn ?_ _) | (with_reducible refine Below.trans ?_ (Below.mono (by assumption) ?_)) | go_size))⟩
  simp only [results, Try.results10]; simp [*, go_sem, ↓IntWalk.iteOmega, Vl.num, Vl.zero, Vl.join, Vl.move, Fa.zero]; try (first | rfl | exact ⟨rfl, rfl⟩)

set_option maxHeartbeats 1000000 in
theorem rvmove_3 (v : Vl) (n : BitVec 64) (hp : Vl.ptr v = true) (r1 : decide (n.toInt < -1048576) = false) (r2 : decide (1048576 < n.toInt) = false) (hs : Vl.reach (v.off + n.toInt) = false) (hx : Vl.right ⟨v.k, v.f, v.i, v.off + n.toInt⟩ = false) (w : World) : Calls Try.prog 10 #[.agg #[.int .u8 v.k, .int .u64 (N v.f.t.v), .int .u64 (N v.f.t.m), .int .u64 (N v.f.s.lo), .int .u64 (N v.f.s.hi), .int .i64 v.i, .int .i64 v.off], .int .u64 (N n)] w fun e w' => e = .returned (.tuple #[.agg #[.int .u8 (Vl.move v n).k, .int .u64 (N (Vl.move v n).f.t.v), .int .u64 (N (Vl.move v n).f.t.m), .int .u64 (N (Vl.move v n).f.s.lo), .int .u64 (N (Vl.move v n).f.s.hi), .int .i64 (Vl.move v n).i, .int .i64 (Vl.move v n).off], .bool (Vl.moveOk v n)]) ∧ Below w.heap.size w w' := by
  have E2 : Vl.moveOk v n = false := by simp [Vl.moveOk, hp, hs]
  have E1 : Vl.move v n = Vl.zero := by unfold Vl.move; rw [E2]; rfl
  rw [E1, E2]; clear E1 E2
  obtain ⟨b0, b1, b2, b3⟩ := Vl.right_bounds (Vl.ptr_right hp)
  have b4 := of_decide_eq_false r1
  have b5 := of_decide_eq_false r2
  go_enter Try.func10, Try.ntmps10
  go_wp2_with (first | (go_at_call 17; (with_reducible refine (rvptr_c' _ _ _ _ _ _ _ _).mono ?_); rintro e w1 ⟨rfl, hb1⟩; obtain ⟨hc1, hf1, hz1⟩ := bcell hb1; (try simp only [World.size_alloc, World.size_setCell, World.size_drew] at hc1 hf1 hz1)) | (go_at_call 13; (with_reducible refine (rvright_c' _ _ _ _ _ _ _ _).mono ?_); rintro e w1 ⟨rfl, hb1⟩; obtain ⟨hc1, hf1, hz1⟩ := bcell hb1; (try simp only [World.size_alloc, World.size_setCell, World.size_drew] at hc1 hf1 hz1)))
  refine bodyPost_ret ?_ rfl ⟨rfl, (by repeat' (first | (with_reducible exact Below.refl _ _) | (with_reducible assumption) | (with_reducible refine Below.alloc ?_ ?_ _) | (with_reducible refine Below.setCell ?_ ?_ _) | (with_reducible refine Below.drew ?_) | (with_reducible refine below_dn ?_ _) | (with_reducible refine Below.trans ?_ (Below.mono (by assumption) ?_)) | go_size))⟩
  simp only [results, Try.results10]; simp [*, go_sem, ↓IntWalk.iteOmega, Vl.num, Vl.zero, Vl.join, Vl.move, Fa.zero]; try (first | rfl | exact ⟨rfl, rfl⟩)

set_option maxHeartbeats 1000000 in
theorem rvmove_4 (v : Vl) (n : BitVec 64) (hp : Vl.ptr v = true) (r1 : decide (n.toInt < -1048576) = false) (r2 : decide (1048576 < n.toInt) = false) (hq : Vl.reach n.toInt = true) (hs : Vl.reach (v.off + n.toInt) = true) (hx : Vl.right ⟨v.k, v.f, v.i, v.off + n.toInt⟩ = true) (w : World) : Calls Try.prog 10 #[.agg #[.int .u8 v.k, .int .u64 (N v.f.t.v), .int .u64 (N v.f.t.m), .int .u64 (N v.f.s.lo), .int .u64 (N v.f.s.hi), .int .i64 v.i, .int .i64 v.off], .int .u64 (N n)] w fun e w' => e = .returned (.tuple #[.agg #[.int .u8 (Vl.move v n).k, .int .u64 (N (Vl.move v n).f.t.v), .int .u64 (N (Vl.move v n).f.t.m), .int .u64 (N (Vl.move v n).f.s.lo), .int .u64 (N (Vl.move v n).f.s.hi), .int .i64 (Vl.move v n).i, .int .i64 (Vl.move v n).off], .bool (Vl.moveOk v n)]) ∧ Below w.heap.size w w' := by
  have E2 : Vl.moveOk v n = true := by simp [Vl.moveOk, hp, hq, hs]
  have E1 : Vl.move v n = ⟨v.k, v.f, v.i, v.off + n.toInt⟩ := by unfold Vl.move; rw [E2]; rfl
  rw [E1, E2]; clear E1 E2
  obtain ⟨b0, b1, b2, b3⟩ := Vl.right_bounds (Vl.ptr_right hp)
  have b4 := of_decide_eq_false r1
  have b5 := of_decide_eq_false r2
  go_enter Try.func10, Try.ntmps10
  go_wp2_with (first | (go_at_call 17; (with_reducible refine (rvptr_c' _ _ _ _ _ _ _ _).mono ?_); rintro e w1 ⟨rfl, hb1⟩; obtain ⟨hc1, hf1, hz1⟩ := bcell hb1; (try simp only [World.size_alloc, World.size_setCell, World.size_drew] at hc1 hf1 hz1)) | (go_at_call 13; (with_reducible refine (rvright_c' _ _ _ _ _ _ _ _).mono ?_); rintro e w1 ⟨rfl, hb1⟩; obtain ⟨hc1, hf1, hz1⟩ := bcell hb1; (try simp only [World.size_alloc, World.size_setCell, World.size_drew] at hc1 hf1 hz1)))
  refine bodyPost_ret ?_ rfl ⟨rfl, (by repeat' (first | (with_reducible exact Below.refl _ _) | (with_reducible assumption) | (with_reducible refine Below.alloc ?_ ?_ _) | (with_reducible refine Below.setCell ?_ ?_ _) | (with_reducible refine Below.drew ?_) | (with_reducible refine below_dn ?_ _) | (with_reducible refine Below.trans ?_ (Below.mono (by assumption) ?_)) | go_size))⟩
  simp only [results, Try.results10]; simp [*, go_sem, ↓IntWalk.iteOmega, Vl.num, Vl.zero, Vl.join, Vl.move, Fa.zero]; try (first | rfl | exact ⟨rfl, rfl⟩)

theorem rvmove_c (v : Vl) (n : BitVec 64) (w : World) : Calls Try.prog 10 #[.agg #[.int .u8 v.k, .int .u64 (N v.f.t.v), .int .u64 (N v.f.t.m), .int .u64 (N v.f.s.lo), .int .u64 (N v.f.s.hi), .int .i64 v.i, .int .i64 v.off], .int .u64 (N n)] w fun e w' => e = .returned (.tuple #[.agg #[.int .u8 (Vl.move v n).k, .int .u64 (N (Vl.move v n).f.t.v), .int .u64 (N (Vl.move v n).f.t.m), .int .u64 (N (Vl.move v n).f.s.lo), .int .u64 (N (Vl.move v n).f.s.hi), .int .i64 (Vl.move v n).i, .int .i64 (Vl.move v n).off], .bool (Vl.moveOk v n)]) ∧ Below w.heap.size w w' := by
  cases hp : Vl.ptr v
  · exact rvmove_1 v n hp w
  cases r1 : decide (n.toInt < -1048576)
  · cases r2 : decide (1048576 < n.toInt)
    · have hq : Vl.reach n.toInt = true := by
        have := of_decide_eq_false r1; have := of_decide_eq_false r2
        rw [Vl.reach_iff]; omega
      have hx := Vl.right_moved hp (v.off + n.toInt)
      cases hs : Vl.reach (v.off + n.toInt)
      · rw [hs] at hx; exact rvmove_3 v n hp r1 r2 hs hx w
      · rw [hs] at hx; exact rvmove_4 v n hp r1 r2 hq hs hx w
    · exact rvmove_2b v n hp r1 r2 w
  · exact rvmove_2a v n hp r1 w

theorem rvmove_c' (k0 : Int) (x0 y0 z0 u0 : BitVec 64) (i0 o0 : Int) (x1 : BitVec 64) (w : World) : Calls Try.prog 10 #[.agg #[.int .u8 k0, .int .u64 (N x0), .int .u64 (N y0), .int .u64 (N z0), .int .u64 (N u0), .int .i64 i0, .int .i64 o0], .int .u64 (N x1)] w fun e w' => e = .returned (.tuple #[.agg #[.int .u8 (Vl.move (⟨k0, ⟨⟨x0, y0⟩, ⟨z0, u0⟩⟩, i0, o0⟩ : Vl) x1).k, .int .u64 (N (Vl.move (⟨k0, ⟨⟨x0, y0⟩, ⟨z0, u0⟩⟩, i0, o0⟩ : Vl) x1).f.t.v), .int .u64 (N (Vl.move (⟨k0, ⟨⟨x0, y0⟩, ⟨z0, u0⟩⟩, i0, o0⟩ : Vl) x1).f.t.m), .int .u64 (N (Vl.move (⟨k0, ⟨⟨x0, y0⟩, ⟨z0, u0⟩⟩, i0, o0⟩ : Vl) x1).f.s.lo), .int .u64 (N (Vl.move (⟨k0, ⟨⟨x0, y0⟩, ⟨z0, u0⟩⟩, i0, o0⟩ : Vl) x1).f.s.hi), .int .i64 (Vl.move (⟨k0, ⟨⟨x0, y0⟩, ⟨z0, u0⟩⟩, i0, o0⟩ : Vl) x1).i, .int .i64 (Vl.move (⟨k0, ⟨⟨x0, y0⟩, ⟨z0, u0⟩⟩, i0, o0⟩ : Vl) x1).off], .bool (Vl.moveOk (⟨k0, ⟨⟨x0, y0⟩, ⟨z0, u0⟩⟩, i0, o0⟩ : Vl) x1)]) ∧ Below w.heap.size w w' := by
  exact rvmove_c (⟨k0, ⟨⟨x0, y0⟩, ⟨z0, u0⟩⟩, i0, o0⟩ : Vl) x1 w

end Hk
