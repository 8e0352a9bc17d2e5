/- Package span: the small functions return what the plain functions on spans say; old memory is as it was. No condition but those in each statement. -/
import Derived.Test.YtkpmhnfgldchaaaProg
import Derived.Test.YtkpmhnfgldchaaaWd
import Derived.Test.YtkpmhnfgldchaaaSpDo
namespace Hk
open Go Go.RowKit Go.Proofs
set_option linter.unusedSimpArgs false
set_option linter.unusedVariables false
set_option maxRecDepth 100000
theorem sright_c (a : Sp) (w : World) : Calls Try.prog 19 #[.agg #[.int .u64 (N a.lo), .int .u64 (N a.hi)]] w fun e w' => e = .returned (.bool (a.right)) ∧ Below w.heap.size w w' := by
  go_enter Try.func19, Try.ntmps19
  go_wp2
  go_ret
  exact ⟨by simp [Sp.right], (by repeat' (first | (with_reducible exact Below.refl _ _) | (with_reducible assumption) | (with_reducible refine Below.alloc ?_ ?_ _) | (with_reducible refine Below.setCell ?_ ?_ _) | (with_reducible refine Below.drew ?_) | (with_reducible refine below_dn ?_ _) | (with_reducible refine Below.trans ?_ (Below.mono (by assumption) ?_)) | go_size))⟩

theorem sright_c' (x0 y0 : BitVec 64) (w : World) : Calls Try.prog 19 #[.agg #[.int .u64 (N x0), .int .u64 (N y0)]] w fun e w' => e = .returned (.bool (Sp.right (⟨x0, y0⟩ : Sp))) ∧ Below w.heap.size w w' := by
  exact sright_c (⟨x0, y0⟩ : Sp) w

theorem sall_c  (w : World) : Calls Try.prog 21 #[] w fun e w' => e = .returned (.agg #[.int .u64 (N Sp.all.lo), .int .u64 (N Sp.all.hi)]) ∧ Below w.heap.size w w' := by
  go_enter Try.func21, Try.ntmps21
  go_wp2
  refine bodyPost_ret (v := .agg #[.int .u64 (N Sp.all.lo), .int .u64 (N Sp.all.hi)]) ?_ rfl ⟨?_, (by repeat' (first | (with_reducible exact Below.refl _ _) | (with_reducible assumption) | (with_reducible refine Below.alloc ?_ ?_ _) | (with_reducible refine Below.setCell ?_ ?_ _) | (with_reducible refine Below.drew ?_) | (with_reducible refine below_dn ?_ _) | (with_reducible refine Below.trans ?_ (Below.mono (by assumption) ?_)) | go_size))⟩
  · simp only [results, Try.results21]; simp [*, go_sem, ↓IntWalk.iteOmega]; try (first | rfl | exact ⟨rfl, rfl⟩)
  · rfl

theorem shas_c (a : Sp) (n : BitVec 64) (w : World) : Calls Try.prog 11 #[.agg #[.int .u64 (N a.lo), .int .u64 (N a.hi)], .int .u64 (N n)] w fun e w' => e = .returned (.bool (a.has n)) ∧ Below w.heap.size w w' := by
  cases h1 : decide (a.lo ≤ n) <;> cases h2 : decide (n ≤ a.hi)
  all_goals
    go_enter Try.func11, Try.ntmps11
    go_wp2
    go_ret
    exact ⟨by simp [Sp.has, *], (by repeat' (first | (with_reducible exact Below.refl _ _) | (with_reducible assumption) | (with_reducible refine Below.alloc ?_ ?_ _) | (with_reducible refine Below.setCell ?_ ?_ _) | (with_reducible refine Below.drew ?_) | (with_reducible refine below_dn ?_ _) | (with_reducible refine Below.trans ?_ (Below.mono (by assumption) ?_)) | go_size))⟩

theorem shas_c' (x0 y0 : BitVec 64) (x1 : BitVec 64) (w : World) : Calls Try.prog 11 #[.agg #[.int .u64 (N x0), .int .u64 (N y0)], .int .u64 (N x1)] w fun e w' => e = .returned (.bool (Sp.has (⟨x0, y0⟩ : Sp) x1)) ∧ Below w.heap.size w w' := by
  exact shas_c (⟨x0, y0⟩ : Sp) x1 w

theorem swithin_c (a b : Sp) (w : World) : Calls Try.prog 16 #[.agg #[.int .u64 (N a.lo), .int .u64 (N a.hi)], .agg #[.int .u64 (N b.lo), .int .u64 (N b.hi)]] w fun e w' => e = .returned (.bool (a.within b)) ∧ Below w.heap.size w w' := by
  cases ha : a.right <;> cases hb : b.right <;> cases h1 : b.has a.lo <;> cases h2 : b.has a.hi
  all_goals
    go_enter Try.func16, Try.ntmps16
    go_wp2_with (first | (go_at_call 19; (with_reducible refine (sright_c' _ _ _).mono ?_); rintro e w1 ⟨rfl, hb1⟩; obtain ⟨hc1, hf1, hz1⟩ := bcell hb1; (try simp only [World.size_alloc, World.size_setCell, World.size_drew] at hc1 hf1 hz1)) | (go_at_call 11; (with_reducible refine (shas_c' _ _ _ _).mono ?_); rintro e w1 ⟨rfl, hb1⟩; obtain ⟨hc1, hf1, hz1⟩ := bcell hb1; (try simp only [World.size_alloc, World.size_setCell, World.size_drew] at hc1 hf1 hz1)))
    go_ret
    exact ⟨by simp [Sp.within, *], (by repeat' (first | (with_reducible exact Below.refl _ _) | (with_reducible assumption) | (with_reducible refine Below.alloc ?_ ?_ _) | (with_reducible refine Below.setCell ?_ ?_ _) | (with_reducible refine Below.drew ?_) | (with_reducible refine below_dn ?_ _) | (with_reducible refine Below.trans ?_ (Below.mono (by assumption) ?_)) | go_size))⟩

theorem swithin_c' (x0 y0 : BitVec 64) (x1 y1 : BitVec 64) (w : World) : Calls Try.prog 16 #[.agg #[.int .u64 (N x0), .int .u64 (N y0)], .agg #[.int .u64 (N x1), .int .u64 (N y1)]] w fun e w' => e = .returned (.bool (Sp.within (⟨x0, y0⟩ : Sp) (⟨x1, y1⟩ : Sp))) ∧ Below w.heap.size w w' := by
  exact swithin_c (⟨x0, y0⟩ : Sp) (⟨x1, y1⟩ : Sp) w

theorem sjoin_c (a b : Sp) (w : World) : Calls Try.prog 25 #[.agg #[.int .u64 (N a.lo), .int .u64 (N a.hi)], .agg #[.int .u64 (N b.lo), .int .u64 (N b.hi)]] w fun e w' => e = .returned (.agg #[.int .u64 (N (Sp.join a b).lo), .int .u64 (N (Sp.join a b).hi)]) ∧ Below w.heap.size w w' := by
  cases ha : a.right <;> cases hb : b.right
  all_goals
    go_enter Try.func25, Try.ntmps25
    go_wp2_with (first | (go_at_call 19; (with_reducible refine (sright_c' _ _ _).mono ?_); rintro e w1 ⟨rfl, hb1⟩; obtain ⟨hc1, hf1, hz1⟩ := bcell hb1; (try simp only [World.size_alloc, World.size_setCell, World.size_drew] at hc1 hf1 hz1)))
    refine bodyPost_ret (v := .agg #[.int .u64 (N (Sp.join a b).lo), .int .u64 (N (Sp.join a b).hi)]) ?_ rfl ⟨?_, (by repeat' (first | (with_reducible exact Below.refl _ _) | (with_reducible assumption) | (with_reducible refine Below.alloc ?_ ?_ _) | (with_reducible refine Below.setCell ?_ ?_ _) | (with_reducible refine Below.drew ?_) | (with_reducible refine below_dn ?_ _) | (with_reducible refine Below.trans ?_ (Below.mono (by assumption) ?_)) | go_size))⟩
    · simp only [results, Try.results25]; simp [*, go_sem, ↓IntWalk.iteOmega]; simp [Sp.join, ha, hb]; try (first | rfl | exact ⟨rfl, rfl⟩)
    · rfl

theorem sjoin_c' (x0 y0 : BitVec 64) (x1 y1 : BitVec 64) (w : World) : Calls Try.prog 25 #[.agg #[.int .u64 (N x0), .int .u64 (N y0)], .agg #[.int .u64 (N x1), .int .u64 (N y1)]] w fun e w' => e = .returned (.agg #[.int .u64 (N (Sp.join (⟨x0, y0⟩ : Sp) (⟨x1, y1⟩ : Sp)).lo), .int .u64 (N (Sp.join (⟨x0, y0⟩ : Sp) (⟨x1, y1⟩ : Sp)).hi)]) ∧ Below w.heap.size w w' := by
  exact sjoin_c (⟨x0, y0⟩ : Sp) (⟨x1, y1⟩ : Sp) w

end Hk
