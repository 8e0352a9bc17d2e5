/- Package fact: Settle, Right; old memory is as it was. No condition but those in each statement. Package fact: settled, Of, Any, Known, Has, Within; old memory is as it was. No condition but those in each statement. -/
import Derived.Test.YtjeanjbjngbfcaaProg
import Derived.Test.YtjeanjbjngbfcaaGp
import Derived.Test.YtjeanjbjngbfcaaGf
import Derived.Test.YtjeanjbjngbfcaaGt
import Derived.Test.YtjeanjbjngbfcaaGl
import Derived.Test.YtjeanjbjngbfcaaFa2
import Derived.Test.YtjeanjbjngbfcaaGs
namespace Hk
open Go Go.RowKit Go.Proofs
set_option linter.unusedSimpArgs false
set_option linter.unusedVariables false
set_option maxRecDepth 100000
attribute [go_sem] Tn.eta
theorem settle_c (f : Fa) (w : World) : Calls Try.prog 33 #[.agg #[.int .u64 (N f.t.v), .int .u64 (N f.t.m), .int .u64 (N f.s.lo), .int .u64 (N f.s.hi)]] w fun e w' => e = .returned (.tuple #[.agg #[.int .u64 (N ((Fa.settle f).getD Fa.zero).t.v), .int .u64 (N ((Fa.settle f).getD Fa.zero).t.m), .int .u64 (N ((Fa.settle f).getD Fa.zero).s.lo), .int .u64 (N ((Fa.settle f).getD Fa.zero).s.hi)], .bool (Fa.settle f).isSome]) ∧ Below w.heap.size w w' := by
  cases h1 : f.t.right
  · exact settle_no1 f h1 w
  · cases h2 : f.s.right
    · exact settle_no2 f h1 h2 w
    · exact settle_yes f h1 h2 w

theorem settle_c' (x0 y0 z0 u0 : BitVec 64) (w : World) : Calls Try.prog 33 #[.agg #[.int .u64 (N x0), .int .u64 (N y0), .int .u64 (N z0), .int .u64 (N u0)]] w fun e w' => e = .returned (.tuple #[.agg #[.int .u64 (N ((Fa.settle (⟨⟨x0, y0⟩, ⟨z0, u0⟩⟩ : Fa)).getD Fa.zero).t.v), .int .u64 (N ((Fa.settle (⟨⟨x0, y0⟩, ⟨z0, u0⟩⟩ : Fa)).getD Fa.zero).t.m), .int .u64 (N ((Fa.settle (⟨⟨x0, y0⟩, ⟨z0, u0⟩⟩ : Fa)).getD Fa.zero).s.lo), .int .u64 (N ((Fa.settle (⟨⟨x0, y0⟩, ⟨z0, u0⟩⟩ : Fa)).getD Fa.zero).s.hi)], .bool (Fa.settle (⟨⟨x0, y0⟩, ⟨z0, u0⟩⟩ : Fa)).isSome]) ∧ Below w.heap.size w w' := by
  exact settle_c (⟨⟨x0, y0⟩, ⟨z0, u0⟩⟩ : Fa) w

theorem fright_none (f : Fa) (h : Fa.settle f = none) (w : World) : Calls Try.prog 43 #[.agg #[.int .u64 (N f.t.v), .int .u64 (N f.t.m), .int .u64 (N f.s.lo), .int .u64 (N f.s.hi)]] w fun e w' => e = .returned (.bool (false)) ∧ Below w.heap.size w w' := by
  go_enter Try.func43, Try.ntmps43
  go_wp2_with (first | (go_at_call 33; (with_reducible refine (settle_c' _ _ _ _ _).mono ?_); rintro e w1 ⟨rfl, hb1⟩; obtain ⟨hc1, hf1, hz1⟩ := bcell hb1; (try simp only [World.size_alloc, World.size_setCell, World.size_drew] at hc1 hf1 hz1)))
  (try go_region)
  (try go_wp2)
  go_ret
  exact ⟨rfl, (by repeat' (first | (with_reducible exact Below.refl _ _) | (with_reducible assumption) | (with_reducible refine Below.alloc ?_ ?_ _) | (with_reducible refine Below.setCell ?_ ?_ _) | (with_reducible refine Below.drew ?_) | (with_reducible refine below_dn ?_ _) | (with_reducible refine Below.trans ?_ (Below.mono (by assumption) ?_)) | go_size))⟩

theorem fright_same (f : Fa) (h : Fa.settle f = some f) (w : World) : Calls Try.prog 43 #[.agg #[.int .u64 (N f.t.v), .int .u64 (N f.t.m), .int .u64 (N f.s.lo), .int .u64 (N f.s.hi)]] w fun e w' => e = .returned (.bool (true)) ∧ Below w.heap.size w w' := by
  go_enter Try.func43, Try.ntmps43
  go_wp2_with (first | (go_at_call 33; (with_reducible refine (settle_c' _ _ _ _ _).mono ?_); rintro e w1 ⟨rfl, hb1⟩; obtain ⟨hc1, hf1, hz1⟩ := bcell hb1; (try simp only [World.size_alloc, World.size_setCell, World.size_drew] at hc1 hf1 hz1)))
  (try go_region)
  (try go_wp2)
  go_ret
  exact ⟨rfl, (by repeat' (first | (with_reducible exact Below.refl _ _) | (with_reducible assumption) | (with_reducible refine Below.alloc ?_ ?_ _) | (with_reducible refine Below.setCell ?_ ?_ _) | (with_reducible refine Below.drew ?_) | (with_reducible refine below_dn ?_ _) | (with_reducible refine Below.trans ?_ (Below.mono (by assumption) ?_)) | go_size))⟩

theorem fright_0 (f : Fa) (g : Fa) (h : Fa.settle f = some g) (e0 : (f.t.v == g.t.v) = false) (w : World) : Calls Try.prog 43 #[.agg #[.int .u64 (N f.t.v), .int .u64 (N f.t.m), .int .u64 (N f.s.lo), .int .u64 (N f.s.hi)]] w fun e w' => e = .returned (.bool (false)) ∧ Below w.heap.size w w' := by
  go_enter Try.func43, Try.ntmps43
  go_wp2_with (first | (go_at_call 33; (with_reducible refine (settle_c' _ _ _ _ _).mono ?_); rintro e w1 ⟨rfl, hb1⟩; obtain ⟨hc1, hf1, hz1⟩ := bcell hb1; (try simp only [World.size_alloc, World.size_setCell, World.size_drew] at hc1 hf1 hz1)))
  (try go_region)
  (try go_wp2)
  go_ret
  exact ⟨rfl, (by repeat' (first | (with_reducible exact Below.refl _ _) | (with_reducible assumption) | (with_reducible refine Below.alloc ?_ ?_ _) | (with_reducible refine Below.setCell ?_ ?_ _) | (with_reducible refine Below.drew ?_) | (with_reducible refine below_dn ?_ _) | (with_reducible refine Below.trans ?_ (Below.mono (by assumption) ?_)) | go_size))⟩

theorem fright_1 (f : Fa) (g : Fa) (h : Fa.settle f = some g) (e0 : (f.t.v == g.t.v) = true) (e1 : (f.t.m == g.t.m) = false) (w : World) : Calls Try.prog 43 #[.agg #[.int .u64 (N f.t.v), .int .u64 (N f.t.m), .int .u64 (N f.s.lo), .int .u64 (N f.s.hi)]] w fun e w' => e = .returned (.bool (false)) ∧ Below w.heap.size w w' := by
  go_enter Try.func43, Try.ntmps43
  go_wp2_with (first | (go_at_call 33; (with_reducible refine (settle_c' _ _ _ _ _).mono ?_); rintro e w1 ⟨rfl, hb1⟩; obtain ⟨hc1, hf1, hz1⟩ := bcell hb1; (try simp only [World.size_alloc, World.size_setCell, World.size_drew] at hc1 hf1 hz1)))
  (try go_region)
  (try go_wp2)
  go_ret
  exact ⟨rfl, (by repeat' (first | (with_reducible exact Below.refl _ _) | (with_reducible assumption) | (with_reducible refine Below.alloc ?_ ?_ _) | (with_reducible refine Below.setCell ?_ ?_ _) | (with_reducible refine Below.drew ?_) | (with_reducible refine below_dn ?_ _) | (with_reducible refine Below.trans ?_ (Below.mono (by assumption) ?_)) | go_size))⟩

theorem fright_2 (f : Fa) (g : Fa) (h : Fa.settle f = some g) (e0 : (f.t.v == g.t.v) = true) (e1 : (f.t.m == g.t.m) = true) (e2 : (f.s.lo == g.s.lo) = false) (w : World) : Calls Try.prog 43 #[.agg #[.int .u64 (N f.t.v), .int .u64 (N f.t.m), .int .u64 (N f.s.lo), .int .u64 (N f.s.hi)]] w fun e w' => e = .returned (.bool (false)) ∧ Below w.heap.size w w' := by
  go_enter Try.func43, Try.ntmps43
  go_wp2_with (first | (go_at_call 33; (with_reducible refine (settle_c' _ _ _ _ _).mono ?_); rintro e w1 ⟨rfl, hb1⟩; obtain ⟨hc1, hf1, hz1⟩ := bcell hb1; (try simp only [World.size_alloc, World.size_setCell, World.size_drew] at hc1 hf1 hz1)))
  (try go_region)
  (try go_wp2)
  go_ret
  exact ⟨rfl, (by repeat' (first | (with_reducible exact Below.refl _ _) | (with_reducible assumption) | (with_reducible refine Below.alloc ?_ ?_ _) | (with_reducible refine Below.setCell ?_ ?_ _) | (with_reducible refine Below.drew ?_) | (with_reducible refine below_dn ?_ _) | (with_reducible refine Below.trans ?_ (Below.mono (by assumption) ?_)) | go_size))⟩

theorem fright_3 (f : Fa) (g : Fa) (h : Fa.settle f = some g) (e0 : (f.t.v == g.t.v) = true) (e1 : (f.t.m == g.t.m) = true) (e2 : (f.s.lo == g.s.lo) = true) (e3 : (f.s.hi == g.s.hi) = false) (w : World) : Calls Try.prog 43 #[.agg #[.int .u64 (N f.t.v), .int .u64 (N f.t.m), .int .u64 (N f.s.lo), .int .u64 (N f.s.hi)]] w fun e w' => e = .returned (.bool (false)) ∧ Below w.heap.size w w' := by
  go_enter Try.func43, Try.ntmps43
  go_wp2_with (first | (go_at_call 33; (with_reducible refine (settle_c' _ _ _ _ _).mono ?_); rintro e w1 ⟨rfl, hb1⟩; obtain ⟨hc1, hf1, hz1⟩ := bcell hb1; (try simp only [World.size_alloc, World.size_setCell, World.size_drew] at hc1 hf1 hz1)))
  (try go_region)
  (try go_wp2)
  go_ret
  exact ⟨rfl, (by repeat' (first | (with_reducible exact Below.refl _ _) | (with_reducible assumption) | (with_reducible refine Below.alloc ?_ ?_ _) | (with_reducible refine Below.setCell ?_ ?_ _) | (with_reducible refine Below.drew ?_) | (with_reducible refine below_dn ?_ _) | (with_reducible refine Below.trans ?_ (Below.mono (by assumption) ?_)) | go_size))⟩

theorem fright_c (f : Fa) (w : World) : Calls Try.prog 43 #[.agg #[.int .u64 (N f.t.v), .int .u64 (N f.t.m), .int .u64 (N f.s.lo), .int .u64 (N f.s.hi)]] w fun e w' => e = .returned (.bool ((Fa.ok f))) ∧ Below w.heap.size w w' := by
  rcases h : Fa.settle f with _ | g
  · rw [Fa.ok_none h]; exact fright_none f h w
  · by_cases e : g = f
    · subst e; rw [Fa.ok_same h]; exact fright_same g h w
    · rw [Fa.ok_ne h e]
      cases e0 : (f.t.v == g.t.v)
      · exact fright_0 f g h e0 w
      cases e1 : (f.t.m == g.t.m)
      · exact fright_1 f g h e0 e1 w
      cases e2 : (f.s.lo == g.s.lo)
      · exact fright_2 f g h e0 e1 e2 w
      cases e3 : (f.s.hi == g.s.hi)
      · exact fright_3 f g h e0 e1 e2 e3 w
      exact absurd (Fa.fa_eq e0 e1 e2 e3) e

theorem fright_c' (x0 y0 z0 u0 : BitVec 64) (w : World) : Calls Try.prog 43 #[.agg #[.int .u64 (N x0), .int .u64 (N y0), .int .u64 (N z0), .int .u64 (N u0)]] w fun e w' => e = .returned (.bool (Fa.ok (⟨⟨x0, y0⟩, ⟨z0, u0⟩⟩ : Fa))) ∧ Below w.heap.size w w' := by
  exact fright_c (⟨⟨x0, y0⟩, ⟨z0, u0⟩⟩ : Fa) w

end Hk

namespace Hk
open Go Go.RowKit Go.Proofs
set_option linter.unusedSimpArgs false
set_option linter.unusedVariables false
set_option maxRecDepth 100000
attribute [go_sem] Tn.eta
theorem fwithin_c (a b : Fa) (w : World) : Calls Try.prog 51 #[.agg #[.int .u64 (N a.t.v), .int .u64 (N a.t.m), .int .u64 (N a.s.lo), .int .u64 (N a.s.hi)], .agg #[.int .u64 (N b.t.v), .int .u64 (N b.t.m), .int .u64 (N b.s.lo), .int .u64 (N b.s.hi)]] w fun e w' => e = .returned (.bool ((Fa.within a b))) ∧ Below w.heap.size w w' := by
  cases h1 : Fa.ok a <;> cases h2 : Fa.ok b <;> cases h3 : a.t.within b.t <;> cases h4 : a.s.within b.s
  all_goals
    go_enter Try.func51, Try.ntmps51
    go_wp2_with (first | (go_at_call 43; (with_reducible refine (fright_c' _ _ _ _ _).mono ?_); rintro e w1 ⟨rfl, hb1⟩; obtain ⟨hc1, hf1, hz1⟩ := bcell hb1; (try simp only [World.size_alloc, World.size_setCell, World.size_drew] at hc1 hf1 hz1)) | (go_at_call 59; (with_reducible refine (within_c' _ _ _ _ _).mono ?_); rintro e w1 ⟨rfl, hb1⟩; obtain ⟨hc1, hf1, hz1⟩ := bcell hb1; (try simp only [World.size_alloc, World.size_setCell, World.size_drew] at hc1 hf1 hz1)) | (go_at_call 60; (with_reducible refine (swithin_c' _ _ _ _ _).mono ?_); rintro e w1 ⟨rfl, hb1⟩; obtain ⟨hc1, hf1, hz1⟩ := bcell hb1; (try simp only [World.size_alloc, World.size_setCell, World.size_drew] at hc1 hf1 hz1)))
    go_ret
    exact ⟨by simp [Fa.within, h1, h2, h3, h4], (by repeat' (first | (with_reducible exact Below.refl _ _) | (with_reducible assumption) | (with_reducible refine Below.alloc ?_ ?_ _) | (with_reducible refine Below.setCell ?_ ?_ _) | (with_reducible refine Below.drew ?_) | (with_reducible refine below_dn ?_ _) | (with_reducible refine Below.trans ?_ (Below.mono (by assumption) ?_)) | go_size))⟩

theorem fwithin_c' (x0 y0 z0 u0 : BitVec 64) (x1 y1 z1 u1 : BitVec 64) (w : World) : Calls Try.prog 51 #[.agg #[.int .u64 (N x0), .int .u64 (N y0), .int .u64 (N z0), .int .u64 (N u0)], .agg #[.int .u64 (N x1), .int .u64 (N y1), .int .u64 (N z1), .int .u64 (N u1)]] w fun e w' => e = .returned (.bool ((Fa.within (⟨⟨x0, y0⟩, ⟨z0, u0⟩⟩ : Fa) (⟨⟨x1, y1⟩, ⟨z1, u1⟩⟩ : Fa)))) ∧ Below w.heap.size w w' := by
  exact fwithin_c (⟨⟨x0, y0⟩, ⟨z0, u0⟩⟩ : Fa) (⟨⟨x1, y1⟩, ⟨z1, u1⟩⟩ : Fa) w

end Hk

