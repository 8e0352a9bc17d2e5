/- Package tnum: Do, its first ways. No condition but those in each statement. -/
import Derived.Test.YtigpljbfdkpopaaProg
import Derived.Test.YtigpljbfdkpopaaWd
import Derived.Test.YtigpljbfdkpopaaTnDo
import Derived.Test.YtigpljbfdkpopaaCt1
import Derived.Test.YtigpljbfdkpopaaCt3
namespace Hk
open Go Go.RowKit Go.Proofs
set_option linter.unusedSimpArgs false
set_option linter.unusedVariables false
set_option maxRecDepth 100000
theorem do_no1 (op : Int) (a b : Tn) (ha : a.right = false) (w : World) : Calls Try.prog 10 #[.int .u8 op, .agg #[.int .u64 (N a.v), .int .u64 (N a.m)], .agg #[.int .u64 (N b.v), .int .u64 (N b.m)]] w fun e w' => e = .returned (.tuple #[.agg #[.int .u64 (N ((Tn.do_ (op) a b).getD ⟨0, 0⟩).v), .int .u64 (N ((Tn.do_ (op) a b).getD ⟨0, 0⟩).m)], .bool (Tn.do_ (op) a b).isSome]) ∧ Below w.heap.size w w' := by
  have E : Tn.do_ (op) a b = none := by unfold Tn.do_; simp [ha]
  rw [E]; clear E
  go_enter Try.func10, Try.ntmps10
  go_wp2_with (first | (go_at_call 28; (with_reducible refine (both_c ⟨_, _⟩ ⟨_, _⟩ _).mono ?_); rintro e w1 ⟨rfl, hb1⟩; obtain ⟨hc1, hf1, hz1⟩ := bcell hb1; (try simp only [World.size_alloc, World.size_setCell, World.size_drew] at hc1 hf1 hz1)))
  refine bodyPost_ret ?_ rfl ⟨rfl, (by repeat' (first | (with_reducible exact Below.refl _ _) | (with_reducible assumption) | (with_reducible refine Below.alloc ?_ ?_ _) | (with_reducible refine Below.setCell ?_ ?_ _) | (with_reducible refine Below.drew ?_) | (with_reducible refine Below.trans ?_ (Below.mono (by assumption) ?_)) | go_size))⟩
  simp only [results, Try.results10]; simp [*, go_sem, ↓IntWalk.iteOmega]; try (first | rfl | exact ⟨rfl, rfl⟩)

theorem do_no2 (op : Int) (a b : Tn) (ha : a.right = true) (hb : b.right = false) (w : World) : Calls Try.prog 10 #[.int .u8 op, .agg #[.int .u64 (N a.v), .int .u64 (N a.m)], .agg #[.int .u64 (N b.v), .int .u64 (N b.m)]] w fun e w' => e = .returned (.tuple #[.agg #[.int .u64 (N ((Tn.do_ (op) a b).getD ⟨0, 0⟩).v), .int .u64 (N ((Tn.do_ (op) a b).getD ⟨0, 0⟩).m)], .bool (Tn.do_ (op) a b).isSome]) ∧ Below w.heap.size w w' := by
  have E : Tn.do_ (op) a b = none := by unfold Tn.do_; simp [hb]
  rw [E]; clear E
  go_enter Try.func10, Try.ntmps10
  go_wp2_with (first | (go_at_call 28; (with_reducible refine (both_c ⟨_, _⟩ ⟨_, _⟩ _).mono ?_); rintro e w1 ⟨rfl, hb1⟩; obtain ⟨hc1, hf1, hz1⟩ := bcell hb1; (try simp only [World.size_alloc, World.size_setCell, World.size_drew] at hc1 hf1 hz1)))
  refine bodyPost_ret ?_ rfl ⟨rfl, (by repeat' (first | (with_reducible exact Below.refl _ _) | (with_reducible assumption) | (with_reducible refine Below.alloc ?_ ?_ _) | (with_reducible refine Below.setCell ?_ ?_ _) | (with_reducible refine Below.drew ?_) | (with_reducible refine Below.trans ?_ (Below.mono (by assumption) ?_)) | go_size))⟩
  simp only [results, Try.results10]; simp [*, go_sem, ↓IntWalk.iteOmega]; try (first | rfl | exact ⟨rfl, rfl⟩)

theorem do_add (a b : Tn) (ha : a.right = true) (hb : b.right = true) (w : World) : Calls Try.prog 10 #[.int .u8 0, .agg #[.int .u64 (N a.v), .int .u64 (N a.m)], .agg #[.int .u64 (N b.v), .int .u64 (N b.m)]] w fun e w' => e = .returned (.tuple #[.agg #[.int .u64 (N ((Tn.do_ (0) a b).getD ⟨0, 0⟩).v), .int .u64 (N ((Tn.do_ (0) a b).getD ⟨0, 0⟩).m)], .bool (Tn.do_ (0) a b).isSome]) ∧ Below w.heap.size w w' := by
  cases hk : (b.m == 0#64) <;> cases hl : decide (b.v < 64#64)
  all_goals
    have E : Tn.do_ (0) a b = some (Tn.add a b) := by unfold Tn.do_; simp [ha, hb]
    rw [E]; clear E
    go_enter Try.func10, Try.ntmps10
    go_wp2_with (first | (go_at_call 28; (with_reducible refine (both_c ⟨_, _⟩ ⟨_, _⟩ _).mono ?_); rintro e w1 ⟨rfl, hb1⟩; obtain ⟨hc1, hf1, hz1⟩ := bcell hb1; (try simp only [World.size_alloc, World.size_setCell, World.size_drew] at hc1 hf1 hz1)) | (go_at_call 29; (with_reducible refine (add_c ⟨_, _⟩ ⟨_, _⟩ _).mono ?_); rintro e w1 ⟨rfl, hb1⟩; obtain ⟨hc1, hf1, hz1⟩ := bcell hb1; (try simp only [World.size_alloc, World.size_setCell, World.size_drew] at hc1 hf1 hz1)))
    refine bodyPost_ret ?_ rfl ⟨rfl, (by repeat' (first | (with_reducible exact Below.refl _ _) | (with_reducible assumption) | (with_reducible refine Below.alloc ?_ ?_ _) | (with_reducible refine Below.setCell ?_ ?_ _) | (with_reducible refine Below.drew ?_) | (with_reducible refine Below.trans ?_ (Below.mono (by assumption) ?_)) | go_size))⟩
    simp only [results, Try.results10]; simp [*, go_sem, ↓IntWalk.iteOmega]; try (first | rfl | exact ⟨rfl, rfl⟩)

theorem do_sub (a b : Tn) (ha : a.right = true) (hb : b.right = true) (w : World) : Calls Try.prog 10 #[.int .u8 16, .agg #[.int .u64 (N a.v), .int .u64 (N a.m)], .agg #[.int .u64 (N b.v), .int .u64 (N b.m)]] w fun e w' => e = .returned (.tuple #[.agg #[.int .u64 (N ((Tn.do_ (16) a b).getD ⟨0, 0⟩).v), .int .u64 (N ((Tn.do_ (16) a b).getD ⟨0, 0⟩).m)], .bool (Tn.do_ (16) a b).isSome]) ∧ Below w.heap.size w w' := by
  cases hk : (b.m == 0#64) <;> cases hl : decide (b.v < 64#64)
  all_goals
    have E : Tn.do_ (16) a b = some (Tn.sub a b) := by unfold Tn.do_; simp [ha, hb]
    rw [E]; clear E
    go_enter Try.func10, Try.ntmps10
    go_wp2_with (first | (go_at_call 28; (with_reducible refine (both_c ⟨_, _⟩ ⟨_, _⟩ _).mono ?_); rintro e w1 ⟨rfl, hb1⟩; obtain ⟨hc1, hf1, hz1⟩ := bcell hb1; (try simp only [World.size_alloc, World.size_setCell, World.size_drew] at hc1 hf1 hz1)) | (go_at_call 30; (with_reducible refine (made_c _ _ _).mono ?_); rintro e w1 ⟨rfl, hb1⟩; obtain ⟨hc1, hf1, hz1⟩ := bcell hb1; (try simp only [World.size_alloc, World.size_setCell, World.size_drew] at hc1 hf1 hz1)))
    refine bodyPost_ret ?_ rfl ⟨rfl, (by repeat' (first | (with_reducible exact Below.refl _ _) | (with_reducible assumption) | (with_reducible refine Below.alloc ?_ ?_ _) | (with_reducible refine Below.setCell ?_ ?_ _) | (with_reducible refine Below.drew ?_) | (with_reducible refine Below.trans ?_ (Below.mono (by assumption) ?_)) | go_size))⟩
    simp only [results, Try.results10]; simp [*, go_sem, ↓IntWalk.iteOmega]; try (first | rfl | exact ⟨rfl, rfl⟩)

theorem do_mul (a b : Tn) (ha : a.right = true) (hb : b.right = true) (w : World) : Calls Try.prog 10 #[.int .u8 32, .agg #[.int .u64 (N a.v), .int .u64 (N a.m)], .agg #[.int .u64 (N b.v), .int .u64 (N b.m)]] w fun e w' => e = .returned (.tuple #[.agg #[.int .u64 (N ((Tn.do_ (32) a b).getD ⟨0, 0⟩).v), .int .u64 (N ((Tn.do_ (32) a b).getD ⟨0, 0⟩).m)], .bool (Tn.do_ (32) a b).isSome]) ∧ Below w.heap.size w w' := by
  cases hk : (b.m == 0#64) <;> cases hl : decide (b.v < 64#64)
  all_goals
    have E : Tn.do_ (32) a b = some (Tn.mul a b) := by unfold Tn.do_; simp [ha, hb]
    rw [E]; clear E
    go_enter Try.func10, Try.ntmps10
    go_wp2_with (first | (go_at_call 28; (with_reducible refine (both_c ⟨_, _⟩ ⟨_, _⟩ _).mono ?_); rintro e w1 ⟨rfl, hb1⟩; obtain ⟨hc1, hf1, hz1⟩ := bcell hb1; (try simp only [World.size_alloc, World.size_setCell, World.size_drew] at hc1 hf1 hz1)) | (go_at_call 31; (with_reducible refine (mul_c ⟨_, _⟩ ⟨_, _⟩ _).mono ?_); rintro e w1 ⟨rfl, hb1⟩; obtain ⟨hc1, hf1, hz1⟩ := bcell hb1; (try simp only [World.size_alloc, World.size_setCell, World.size_drew] at hc1 hf1 hz1)))
    refine bodyPost_ret ?_ rfl ⟨rfl, (by repeat' (first | (with_reducible exact Below.refl _ _) | (with_reducible assumption) | (with_reducible refine Below.alloc ?_ ?_ _) | (with_reducible refine Below.setCell ?_ ?_ _) | (with_reducible refine Below.drew ?_) | (with_reducible refine Below.trans ?_ (Below.mono (by assumption) ?_)) | go_size))⟩
    simp only [results, Try.results10]; simp [*, go_sem, ↓IntWalk.iteOmega]; try (first | rfl | exact ⟨rfl, rfl⟩)

theorem do_and (a b : Tn) (ha : a.right = true) (hb : b.right = true) (w : World) : Calls Try.prog 10 #[.int .u8 80, .agg #[.int .u64 (N a.v), .int .u64 (N a.m)], .agg #[.int .u64 (N b.v), .int .u64 (N b.m)]] w fun e w' => e = .returned (.tuple #[.agg #[.int .u64 (N ((Tn.do_ (80) a b).getD ⟨0, 0⟩).v), .int .u64 (N ((Tn.do_ (80) a b).getD ⟨0, 0⟩).m)], .bool (Tn.do_ (80) a b).isSome]) ∧ Below w.heap.size w w' := by
  cases hk : (b.m == 0#64) <;> cases hl : decide (b.v < 64#64)
  all_goals
    have E : Tn.do_ (80) a b = some (Tn.and a b) := by unfold Tn.do_; simp [ha, hb]
    rw [E]; clear E
    go_enter Try.func10, Try.ntmps10
    go_wp2_with (first | (go_at_call 28; (with_reducible refine (both_c ⟨_, _⟩ ⟨_, _⟩ _).mono ?_); rintro e w1 ⟨rfl, hb1⟩; obtain ⟨hc1, hf1, hz1⟩ := bcell hb1; (try simp only [World.size_alloc, World.size_setCell, World.size_drew] at hc1 hf1 hz1)))
    refine bodyPost_ret ?_ rfl ⟨rfl, (by repeat' (first | (with_reducible exact Below.refl _ _) | (with_reducible assumption) | (with_reducible refine Below.alloc ?_ ?_ _) | (with_reducible refine Below.setCell ?_ ?_ _) | (with_reducible refine Below.drew ?_) | (with_reducible refine Below.trans ?_ (Below.mono (by assumption) ?_)) | go_size))⟩
    simp only [results, Try.results10]; simp [*, go_sem, ↓IntWalk.iteOmega]; try (first | rfl | exact ⟨rfl, rfl⟩)

end Hk
