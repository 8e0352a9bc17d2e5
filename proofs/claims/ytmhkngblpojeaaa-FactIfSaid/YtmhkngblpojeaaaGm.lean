/- Package fact: Settle, Right; old memory is as it was. No condition but those in each statement. Package fact: settled, Of, Any, Known, Has, Within; old memory is as it was. No condition but those in each statement. -/
import Derived.Test.YtmhkngblpojeaaaProg
import Derived.Test.YtmhkngblpojeaaaGp
import Derived.Test.YtmhkngblpojeaaaGf
import Derived.Test.YtmhkngblpojeaaaGt
import Derived.Test.YtmhkngblpojeaaaGl
import Derived.Test.YtmhkngblpojeaaaFa2
import Derived.Test.YtmhkngblpojeaaaGs
namespace Hk
open Go Go.RowKit Go.Proofs
set_option linter.unusedSimpArgs false
set_option linter.unusedVariables false
set_option maxRecDepth 100000
attribute [go_sem] Tn.eta
theorem settle_c (f : Fa) (w : World) : Calls Try.prog 19 #[.agg #[.int .u64 (N f.t.v), .int .u64 (N f.t.m), .int .u64 (N f.s.lo), .int .u64 (N f.s.hi)]] w fun e w' => e = .returned (.tuple #[.agg #[.int .u64 (N ((Fa.settle f).getD Fa.zero).t.v), .int .u64 (N ((Fa.settle f).getD Fa.zero).t.m), .int .u64 (N ((Fa.settle f).getD Fa.zero).s.lo), .int .u64 (N ((Fa.settle f).getD Fa.zero).s.hi)], .bool (Fa.settle f).isSome]) ∧ Below w.heap.size w w' := by
  cases h1 : f.t.right
  · exact settle_no1 f h1 w
  · cases h2 : f.s.right
    · exact settle_no2 f h1 h2 w
    · exact settle_yes f h1 h2 w

theorem settle_c' (x0 y0 z0 u0 : BitVec 64) (w : World) : Calls Try.prog 19 #[.agg #[.int .u64 (N x0), .int .u64 (N y0), .int .u64 (N z0), .int .u64 (N u0)]] w fun e w' => e = .returned (.tuple #[.agg #[.int .u64 (N ((Fa.settle (⟨⟨x0, y0⟩, ⟨z0, u0⟩⟩ : Fa)).getD Fa.zero).t.v), .int .u64 (N ((Fa.settle (⟨⟨x0, y0⟩, ⟨z0, u0⟩⟩ : Fa)).getD Fa.zero).t.m), .int .u64 (N ((Fa.settle (⟨⟨x0, y0⟩, ⟨z0, u0⟩⟩ : Fa)).getD Fa.zero).s.lo), .int .u64 (N ((Fa.settle (⟨⟨x0, y0⟩, ⟨z0, u0⟩⟩ : Fa)).getD Fa.zero).s.hi)], .bool (Fa.settle (⟨⟨x0, y0⟩, ⟨z0, u0⟩⟩ : Fa)).isSome]) ∧ Below w.heap.size w w' := by
  exact settle_c (⟨⟨x0, y0⟩, ⟨z0, u0⟩⟩ : Fa) w

theorem fright_none (f : Fa) (h : Fa.settle f = none) (w : World) : Calls Try.prog 22 #[.agg #[.int .u64 (N f.t.v), .int .u64 (N f.t.m), .int .u64 (N f.s.lo), .int .u64 (N f.s.hi)]] w fun e w' => e = .returned (.bool (false)) ∧ Below w.heap.size w w' := by
  go_enter Try.func22, Try.ntmps22
  go_wp2_with (first | (go_at_call 19; (with_reducible refine (settle_c' _ _ _ _ _).mono ?_); rintro e w1 ⟨rfl, hb1⟩; obtain ⟨hc1, hf1, hz1⟩ := bcell hb1; (try simp only [World.size_alloc, World.size_setCell, World.size_drew] at hc1 hf1 hz1)))
  (try go_region)
  (try go_wp2)
  go_ret
  exact ⟨rfl, (by repeat' (first | (with_reducible exact Below.refl _ _) | (with_reducible assumption) | (with_reducible refine Below.alloc ?_ ?_ _) | (with_reducible refine Below.setCell ?_ ?_ _) | (with_reducible refine Below.drew ?_) | (with_reducible refine below_dn ?_ _) | (with_reducible refine Below.trans ?_ (Below.mono (by assumption) ?_)) | go_size))⟩

theorem fright_same (f : Fa) (h : Fa.settle f = some f) (w : World) : Calls Try.prog 22 #[.agg #[.int .u64 (N f.t.v), .int .u64 (N f.t.m), .int .u64 (N f.s.lo), .int .u64 (N f.s.hi)]] w fun e w' => e = .returned (.bool (true)) ∧ Below w.heap.size w w' := by
  go_enter Try.func22, Try.ntmps22
  go_wp2_with (first | (go_at_call 19; (with_reducible refine (settle_c' _ _ _ _ _).mono ?_); rintro e w1 ⟨rfl, hb1⟩; obtain ⟨hc1, hf1, hz1⟩ := bcell hb1; (try simp only [World.size_alloc, World.size_setCell, World.size_drew] at hc1 hf1 hz1)))
  (try go_region)
  (try go_wp2)
  go_ret
  exact ⟨rfl, (by repeat' (first | (with_reducible exact Below.refl _ _) | (with_reducible assumption) | (with_reducible refine Below.alloc ?_ ?_ _) | (with_reducible refine Below.setCell ?_ ?_ _) | (with_reducible refine Below.drew ?_) | (with_reducible refine below_dn ?_ _) | (with_reducible refine Below.trans ?_ (Below.mono (by assumption) ?_)) | go_size))⟩

theorem fright_0 (f : Fa) (g : Fa) (h : Fa.settle f = some g) (e0 : (f.t.v == g.t.v) = false) (w : World) : Calls Try.prog 22 #[.agg #[.int .u64 (N f.t.v), .int .u64 (N f.t.m), .int .u64 (N f.s.lo), .int .u64 (N f.s.hi)]] w fun e w' => e = .returned (.bool (false)) ∧ Below w.heap.size w w' := by
  go_enter Try.func22, Try.ntmps22
  go_wp2_with (first | (go_at_call 19; (with_reducible refine (settle_c' _ _ _ _ _).mono ?_); rintro e w1 ⟨rfl, hb1⟩; obtain ⟨hc1, hf1, hz1⟩ := bcell hb1; (try simp only [World.size_alloc, World.size_setCell, World.size_drew] at hc1 hf1 hz1)))
  (try go_region)
  (try go_wp2)
  go_ret
  exact ⟨rfl, (by repeat' (first | (with_reducible exact Below.refl _ _) | (with_reducible assumption) | (with_reducible refine Below.alloc ?_ ?_ _) | (with_reducible refine Below.setCell ?_ ?_ _) | (with_reducible refine Below.drew ?_) | (with_reducible refine below_dn ?_ _) | (with_reducible refine Below.trans ?_ (Below.mono (by assumption) ?_)) | go_size))⟩

theorem fright_1 (f : Fa) (g : Fa) (h : Fa.settle f = some g) (e0 : (f.t.v == g.t.v) = true) (e1 : (f.t.m == g.t.m) = false) (w : World) : Calls Try.prog 22 #[.agg #[.int .u64 (N f.t.v), .int .u64 (N f.t.m), .int .u64 (N f.s.lo), .int .u64 (N f.s.hi)]] w fun e w' => e = .returned (.bool (false)) ∧ Below w.heap.size w w' := by
  go_enter Try.func22, Try.ntmps22
  go_wp2_with (first | (go_at_call 19; (with_reducible refine (settle_c' _ _ _ _ _).mono ?_); rintro e w1 ⟨rfl, hb1⟩; obtain ⟨hc1, hf1, hz1⟩ := bcell hb1; (try simp only [World.size_alloc, World.size_setCell, World.size_drew] at hc1 hf1 hz1)))
  (try go_region)
  (try go_wp2)
  go_ret
  exact ⟨rfl, (by repeat' (first | (with_reducible exact Below.refl _ _) | (with_reducible assumption) | (with_reducible refine Below.alloc ?_ ?_ _) | (with_reducible refine Below.setCell ?_ ?_ _) | (with_reducible refine Below.drew ?_) | (with_reducible refine below_dn ?_ _) | (with_reducible refine Below.trans ?_ (Below.mono (by assumption) ?_)) | go_size))⟩

theorem fright_2 (f : Fa) (g : Fa) (h : Fa.settle f = some g) (e0 : (f.t.v == g.t.v) = true) (e1 : (f.t.m == g.t.m) = true) (e2 : (f.s.lo == g.s.lo) = false) (w : World) : Calls Try.prog 22 #[.agg #[.int .u64 (N f.t.v), .int .u64 (N f.t.m), .int .u64 (N f.s.lo), .int .u64 (N f.s.hi)]] w fun e w' => e = .returned (.bool (false)) ∧ Below w.heap.size w w' := by
  go_enter Try.func22, Try.ntmps22
  go_wp2_with (first | (go_at_call 19; (with_reducible refine (settle_c' _ _ _ _ _).mono ?_); rintro e w1 ⟨rfl, hb1⟩; obtain ⟨hc1, hf1, hz1⟩ := bcell hb1; (try simp only [World.size_alloc, World.size_setCell, World.size_drew] at hc1 hf1 hz1)))
  (try go_region)
  (try go_wp2)
  go_ret
  exact ⟨rfl, (by repeat' (first | (with_reducible exact Below.refl _ _) | (with_reducible assumption) | (with_reducible refine Below.alloc ?_ ?_ _) | (with_reducible refine Below.setCell ?_ ?_ _) | (with_reducible refine Below.drew ?_) | (with_reducible refine below_dn ?_ _) | (with_reducible refine Below.trans ?_ (Below.mono (by assumption) ?_)) | go_size))⟩

theorem fright_3 (f : Fa) (g : Fa) (h : Fa.settle f = some g) (e0 : (f.t.v == g.t.v) = true) (e1 : (f.t.m == g.t.m) = true) (e2 : (f.s.lo == g.s.lo) = true) (e3 : (f.s.hi == g.s.hi) = false) (w : World) : Calls Try.prog 22 #[.agg #[.int .u64 (N f.t.v), .int .u64 (N f.t.m), .int .u64 (N f.s.lo), .int .u64 (N f.s.hi)]] w fun e w' => e = .returned (.bool (false)) ∧ Below w.heap.size w w' := by
  go_enter Try.func22, Try.ntmps22
  go_wp2_with (first | (go_at_call 19; (with_reducible refine (settle_c' _ _ _ _ _).mono ?_); rintro e w1 ⟨rfl, hb1⟩; obtain ⟨hc1, hf1, hz1⟩ := bcell hb1; (try simp only [World.size_alloc, World.size_setCell, World.size_drew] at hc1 hf1 hz1)))
  (try go_region)
  (try go_wp2)
  go_ret
  exact ⟨rfl, (by repeat' (first | (with_reducible exact Below.refl _ _) | (with_reducible assumption) | (with_reducible refine Below.alloc ?_ ?_ _) | (with_reducible refine Below.setCell ?_ ?_ _) | (with_reducible refine Below.drew ?_) | (with_reducible refine below_dn ?_ _) | (with_reducible refine Below.trans ?_ (Below.mono (by assumption) ?_)) | go_size))⟩

theorem fright_c (f : Fa) (w : World) : Calls Try.prog 22 #[.agg #[.int .u64 (N f.t.v), .int .u64 (N f.t.m), .int .u64 (N f.s.lo), .int .u64 (N f.s.hi)]] w fun e w' => e = .returned (.bool ((Fa.ok f))) ∧ Below w.heap.size w w' := by
  rcases h : Fa.settle f with _ | g
  · rw [Fa.ok_none h]; exact fright_none f h w
  · by_cases e : g = f
    · subst e; rw [Fa.ok_same h]; exact fright_same g h w
    · rw [Fa.ok_ne h e]
      cases e0 : (f.t.v == g.t.v)
      · exact fright_0 f g h e0 w
      cases e1 : (f.t.m == g.t.m)
      · exact fright_1 f g h e0 e1 w
      cases e2 : (f.s.lo == g.s.lo)
      · exact fright_2 f g h e0 e1 e2 w
      cases e3 : (f.s.hi == g.s.hi)
      · exact fright_3 f g h e0 e1 e2 e3 w
      exact absurd (Fa.fa_eq e0 e1 e2 e3) e

theorem fright_c' (x0 y0 z0 u0 : BitVec 64) (w : World) : Calls Try.prog 22 #[.agg #[.int .u64 (N x0), .int .u64 (N y0), .int .u64 (N z0), .int .u64 (N u0)]] w fun e w' => e = .returned (.bool (Fa.ok (⟨⟨x0, y0⟩, ⟨z0, u0⟩⟩ : Fa))) ∧ Below w.heap.size w w' := by
  exact fright_c (⟨⟨x0, y0⟩, ⟨z0, u0⟩⟩ : Fa) w

end Hk

namespace Hk
open Go Go.RowKit Go.Proofs
set_option linter.unusedSimpArgs false
set_option linter.unusedVariables false
set_option maxRecDepth 100000
attribute [go_sem] Tn.eta
theorem fsettled_c (t : Tn) (s : Sp) (w : World) : Calls Try.prog 67 #[.agg #[.int .u64 (N t.v), .int .u64 (N t.m)], .agg #[.int .u64 (N s.lo), .int .u64 (N s.hi)]] w fun e w' => e = .returned (.agg #[.int .u64 (N (Fa.settled t s).t.v), .int .u64 (N (Fa.settled t s).t.m), .int .u64 (N (Fa.settled t s).s.lo), .int .u64 (N (Fa.settled t s).s.hi)]) ∧ Below w.heap.size w w' := by
  go_enter Try.func67, Try.ntmps67
  go_wp2_with (first | (go_at_call 19; (with_reducible refine (settle_c' _ _ _ _ _).mono ?_); rintro e w1 ⟨rfl, hb1⟩; obtain ⟨hc1, hf1, hz1⟩ := bcell hb1; (try simp only [World.size_alloc, World.size_setCell, World.size_drew] at hc1 hf1 hz1)))
  refine bodyPost_ret ?_ rfl ⟨rfl, (by repeat' (first | (with_reducible exact Below.refl _ _) | (with_reducible assumption) | (with_reducible refine Below.alloc ?_ ?_ _) | (with_reducible refine Below.setCell ?_ ?_ _) | (with_reducible refine Below.drew ?_) | (with_reducible refine below_dn ?_ _) | (with_reducible refine Below.trans ?_ (Below.mono (by assumption) ?_)) | go_size))⟩
  simp only [results, Try.results67]; simp [*, go_sem, ↓IntWalk.iteOmega, Fa.settled]; try (first | rfl | exact ⟨rfl, rfl⟩)

theorem fsettled_c' (x0 y0 : BitVec 64) (x1 y1 : BitVec 64) (w : World) : Calls Try.prog 67 #[.agg #[.int .u64 (N x0), .int .u64 (N y0)], .agg #[.int .u64 (N x1), .int .u64 (N y1)]] w fun e w' => e = .returned (.agg #[.int .u64 (N (Fa.settled (⟨x0, y0⟩ : Tn) (⟨x1, y1⟩ : Sp)).t.v), .int .u64 (N (Fa.settled (⟨x0, y0⟩ : Tn) (⟨x1, y1⟩ : Sp)).t.m), .int .u64 (N (Fa.settled (⟨x0, y0⟩ : Tn) (⟨x1, y1⟩ : Sp)).s.lo), .int .u64 (N (Fa.settled (⟨x0, y0⟩ : Tn) (⟨x1, y1⟩ : Sp)).s.hi)]) ∧ Below w.heap.size w w' := by
  exact fsettled_c (⟨x0, y0⟩ : Tn) (⟨x1, y1⟩ : Sp) w

theorem fof_c (n : BitVec 64) (w : World) : Calls Try.prog 17 #[.int .u64 (N n)] w fun e w' => e = .returned (.agg #[.int .u64 (N (Fa.of n).t.v), .int .u64 (N (Fa.of n).t.m), .int .u64 (N (Fa.of n).s.lo), .int .u64 (N (Fa.of n).s.hi)]) ∧ Below w.heap.size w w' := by
  go_enter Try.func17, Try.ntmps17
  go_wp2_with (first | (go_at_call 44; (with_reducible refine (of_c _ _).mono ?_); rintro e w1 ⟨rfl, hb1⟩; obtain ⟨hc1, hf1, hz1⟩ := bcell hb1; (try simp only [World.size_alloc, World.size_setCell, World.size_drew] at hc1 hf1 hz1)))
  refine bodyPost_ret ?_ rfl ⟨rfl, (by repeat' (first | (with_reducible exact Below.refl _ _) | (with_reducible assumption) | (with_reducible refine Below.alloc ?_ ?_ _) | (with_reducible refine Below.setCell ?_ ?_ _) | (with_reducible refine Below.drew ?_) | (with_reducible refine below_dn ?_ _) | (with_reducible refine Below.trans ?_ (Below.mono (by assumption) ?_)) | go_size))⟩
  simp only [results, Try.results17]; simp [*, go_sem, ↓IntWalk.iteOmega, Fa.of, Tn.of]; try (first | rfl | exact ⟨rfl, rfl⟩)

theorem fof_c' (x0 : BitVec 64) (w : World) : Calls Try.prog 17 #[.int .u64 (N x0)] w fun e w' => e = .returned (.agg #[.int .u64 (N (Fa.of x0).t.v), .int .u64 (N (Fa.of x0).t.m), .int .u64 (N (Fa.of x0).s.lo), .int .u64 (N (Fa.of x0).s.hi)]) ∧ Below w.heap.size w w' := by
  exact fof_c x0 w

theorem fany_c  (w : World) : Calls Try.prog 25 #[] w fun e w' => e = .returned (.agg #[.int .u64 (N Fa.any.t.v), .int .u64 (N Fa.any.t.m), .int .u64 (N Fa.any.s.lo), .int .u64 (N Fa.any.s.hi)]) ∧ Below w.heap.size w w' := by
  go_enter Try.func25, Try.ntmps25
  go_wp2_with (first | (go_at_call 54; (with_reducible refine (sall_c _).mono ?_); rintro e w1 ⟨rfl, hb1⟩; obtain ⟨hc1, hf1, hz1⟩ := bcell hb1; (try simp only [World.size_alloc, World.size_setCell, World.size_drew] at hc1 hf1 hz1)))
  refine bodyPost_ret ?_ rfl ⟨rfl, (by repeat' (first | (with_reducible exact Below.refl _ _) | (with_reducible assumption) | (with_reducible refine Below.alloc ?_ ?_ _) | (with_reducible refine Below.setCell ?_ ?_ _) | (with_reducible refine Below.drew ?_) | (with_reducible refine below_dn ?_ _) | (with_reducible refine Below.trans ?_ (Below.mono (by assumption) ?_)) | go_size))⟩
  simp only [results, Try.results25]; simp [*, go_sem, ↓IntWalk.iteOmega, Fa.any, Sp.all]; try (first | rfl | exact ⟨rfl, rfl⟩)

theorem fknown_c (f : Fa) (w : World) : Calls Try.prog 20 #[.agg #[.int .u64 (N f.t.v), .int .u64 (N f.t.m), .int .u64 (N f.s.lo), .int .u64 (N f.s.hi)]] w fun e w' => e = .returned (.tuple #[.int .u64 (N ((Fa.known f).getD 0#64)), .bool (Fa.known f).isSome]) ∧ Below w.heap.size w w' := by
  cases h1 : (f.t.m == 0#64) <;> cases h2 : Fa.ok f
  all_goals
    rw [Fa.known_is, h1, h2]
    simp only [Bool.and_self, Bool.and_true, Bool.true_and, Bool.and_false, Bool.false_and, Bool.false_eq_true, if_true, if_false, Option.getD_some, Option.getD_none, Option.isSome_some, Option.isSome_none]
    go_enter Try.func20, Try.ntmps20
    go_wp2_with (first | (go_at_call 22; (with_reducible refine (fright_c' _ _ _ _ _).mono ?_); rintro e w1 ⟨rfl, hb1⟩; obtain ⟨hc1, hf1, hz1⟩ := bcell hb1; (try simp only [World.size_alloc, World.size_setCell, World.size_drew] at hc1 hf1 hz1)))
    go_ret2
    exact ⟨rfl, (by repeat' (first | (with_reducible exact Below.refl _ _) | (with_reducible assumption) | (with_reducible refine Below.alloc ?_ ?_ _) | (with_reducible refine Below.setCell ?_ ?_ _) | (with_reducible refine Below.drew ?_) | (with_reducible refine below_dn ?_ _) | (with_reducible refine Below.trans ?_ (Below.mono (by assumption) ?_)) | go_size))⟩

theorem fknown_c' (x0 y0 z0 u0 : BitVec 64) (w : World) : Calls Try.prog 20 #[.agg #[.int .u64 (N x0), .int .u64 (N y0), .int .u64 (N z0), .int .u64 (N u0)]] w fun e w' => e = .returned (.tuple #[.int .u64 (N ((Fa.known (⟨⟨x0, y0⟩, ⟨z0, u0⟩⟩ : Fa)).getD 0#64)), .bool (Fa.known (⟨⟨x0, y0⟩, ⟨z0, u0⟩⟩ : Fa)).isSome]) ∧ Below w.heap.size w w' := by
  exact fknown_c (⟨⟨x0, y0⟩, ⟨z0, u0⟩⟩ : Fa) w

theorem fhas_c (f : Fa) (n : BitVec 64) (w : World) : Calls Try.prog 27 #[.agg #[.int .u64 (N f.t.v), .int .u64 (N f.t.m), .int .u64 (N f.s.lo), .int .u64 (N f.s.hi)], .int .u64 (N n)] w fun e w' => e = .returned (.bool ((Fa.has f n))) ∧ Below w.heap.size w w' := by
  cases h1 : Fa.ok f <;> cases h2 : f.t.has n <;> cases h3 : f.s.has n
  all_goals
    go_enter Try.func27, Try.ntmps27
    go_wp2_with (first | (go_at_call 22; (with_reducible refine (fright_c' _ _ _ _ _).mono ?_); rintro e w1 ⟨rfl, hb1⟩; obtain ⟨hc1, hf1, hz1⟩ := bcell hb1; (try simp only [World.size_alloc, World.size_setCell, World.size_drew] at hc1 hf1 hz1)) | (go_at_call 56; (with_reducible refine (has_c' _ _ _ _).mono ?_); rintro e w1 ⟨rfl, hb1⟩; obtain ⟨hc1, hf1, hz1⟩ := bcell hb1; (try simp only [World.size_alloc, World.size_setCell, World.size_drew] at hc1 hf1 hz1)) | (go_at_call 57; (with_reducible refine (shas_c' _ _ _ _).mono ?_); rintro e w1 ⟨rfl, hb1⟩; obtain ⟨hc1, hf1, hz1⟩ := bcell hb1; (try simp only [World.size_alloc, World.size_setCell, World.size_drew] at hc1 hf1 hz1)))
    go_ret
    exact ⟨by simp [Fa.has, h1, h2, h3], (by repeat' (first | (with_reducible exact Below.refl _ _) | (with_reducible assumption) | (with_reducible refine Below.alloc ?_ ?_ _) | (with_reducible refine Below.setCell ?_ ?_ _) | (with_reducible refine Below.drew ?_) | (with_reducible refine below_dn ?_ _) | (with_reducible refine Below.trans ?_ (Below.mono (by assumption) ?_)) | go_size))⟩

theorem fhas_c' (x0 y0 z0 u0 : BitVec 64) (x1 : BitVec 64) (w : World) : Calls Try.prog 27 #[.agg #[.int .u64 (N x0), .int .u64 (N y0), .int .u64 (N z0), .int .u64 (N u0)], .int .u64 (N x1)] w fun e w' => e = .returned (.bool ((Fa.has (⟨⟨x0, y0⟩, ⟨z0, u0⟩⟩ : Fa) x1))) ∧ Below w.heap.size w w' := by
  exact fhas_c (⟨⟨x0, y0⟩, ⟨z0, u0⟩⟩ : Fa) x1 w

theorem fwithin_c (a b : Fa) (w : World) : Calls Try.prog 30 #[.agg #[.int .u64 (N a.t.v), .int .u64 (N a.t.m), .int .u64 (N a.s.lo), .int .u64 (N a.s.hi)], .agg #[.int .u64 (N b.t.v), .int .u64 (N b.t.m), .int .u64 (N b.s.lo), .int .u64 (N b.s.hi)]] w fun e w' => e = .returned (.bool ((Fa.within a b))) ∧ Below w.heap.size w w' := by
  cases h1 : Fa.ok a <;> cases h2 : Fa.ok b <;> cases h3 : a.t.within b.t <;> cases h4 : a.s.within b.s
  all_goals
    go_enter Try.func30, Try.ntmps30
    go_wp2_with (first | (go_at_call 22; (with_reducible refine (fright_c' _ _ _ _ _).mono ?_); rintro e w1 ⟨rfl, hb1⟩; obtain ⟨hc1, hf1, hz1⟩ := bcell hb1; (try simp only [World.size_alloc, World.size_setCell, World.size_drew] at hc1 hf1 hz1)) | (go_at_call 63; (with_reducible refine (within_c' _ _ _ _ _).mono ?_); rintro e w1 ⟨rfl, hb1⟩; obtain ⟨hc1, hf1, hz1⟩ := bcell hb1; (try simp only [World.size_alloc, World.size_setCell, World.size_drew] at hc1 hf1 hz1)) | (go_at_call 64; (with_reducible refine (swithin_c' _ _ _ _ _).mono ?_); rintro e w1 ⟨rfl, hb1⟩; obtain ⟨hc1, hf1, hz1⟩ := bcell hb1; (try simp only [World.size_alloc, World.size_setCell, World.size_drew] at hc1 hf1 hz1)))
    go_ret
    exact ⟨by simp [Fa.within, h1, h2, h3, h4], (by repeat' (first | (with_reducible exact Below.refl _ _) | (with_reducible assumption) | (with_reducible refine Below.alloc ?_ ?_ _) | (with_reducible refine Below.setCell ?_ ?_ _) | (with_reducible refine Below.drew ?_) | (with_reducible refine below_dn ?_ _) | (with_reducible refine Below.trans ?_ (Below.mono (by assumption) ?_)) | go_size))⟩

theorem fwithin_c' (x0 y0 z0 u0 : BitVec 64) (x1 y1 z1 u1 : BitVec 64) (w : World) : Calls Try.prog 30 #[.agg #[.int .u64 (N x0), .int .u64 (N y0), .int .u64 (N z0), .int .u64 (N u0)], .agg #[.int .u64 (N x1), .int .u64 (N y1), .int .u64 (N z1), .int .u64 (N u1)]] w fun e w' => e = .returned (.bool ((Fa.within (⟨⟨x0, y0⟩, ⟨z0, u0⟩⟩ : Fa) (⟨⟨x1, y1⟩, ⟨z1, u1⟩⟩ : Fa)))) ∧ Below w.heap.size w w' := by
  exact fwithin_c (⟨⟨x0, y0⟩, ⟨z0, u0⟩⟩ : Fa) (⟨⟨x1, y1⟩, ⟨z1, u1⟩⟩ : Fa) w

end Hk

