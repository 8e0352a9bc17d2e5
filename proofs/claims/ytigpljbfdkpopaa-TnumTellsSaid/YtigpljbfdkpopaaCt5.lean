/- Package tnum: Do, its other ways. No condition but those in each statement. -/
import Derived.Test.YtigpljbfdkpopaaProg
import Derived.Test.YtigpljbfdkpopaaWd
import Derived.Test.YtigpljbfdkpopaaTnDo
import Derived.Test.YtigpljbfdkpopaaCt1
namespace Hk
open Go Go.RowKit Go.Proofs
set_option linter.unusedSimpArgs false
set_option linter.unusedVariables false
set_option maxRecDepth 100000
theorem do_or (a b : Tn) (ha : a.right = true) (hb : b.right = true) (w : World) : Calls Try.prog 10 #[.int .u8 64, .agg #[.int .u64 (N a.v), .int .u64 (N a.m)], .agg #[.int .u64 (N b.v), .int .u64 (N b.m)]] w fun e w' => e = .returned (.tuple #[.agg #[.int .u64 (N ((Tn.do_ (64) a b).getD ⟨0, 0⟩).v), .int .u64 (N ((Tn.do_ (64) a b).getD ⟨0, 0⟩).m)], .bool (Tn.do_ (64) a b).isSome]) ∧ Below w.heap.size w w' := by
  cases hk : (b.m == 0#64) <;> cases hl : decide (b.v < 64#64)
  all_goals
    have E : Tn.do_ (64) a b = some (Tn.or a b) := by unfold Tn.do_; simp [ha, hb]
    rw [E]; clear E
    go_enter Try.func10, Try.ntmps10
    go_wp2_with (first | (go_at_call 28; (with_reducible refine (both_c ⟨_, _⟩ ⟨_, _⟩ _).mono ?_); rintro e w1 ⟨rfl, hb1⟩; obtain ⟨hc1, hf1, hz1⟩ := bcell hb1; (try simp only [World.size_alloc, World.size_setCell, World.size_drew] at hc1 hf1 hz1)))
    refine bodyPost_ret ?_ rfl ⟨rfl, (by repeat' (first | (with_reducible exact Below.refl _ _) | (with_reducible assumption) | (with_reducible refine Below.alloc ?_ ?_ _) | (with_reducible refine Below.setCell ?_ ?_ _) | (with_reducible refine Below.drew ?_) | (with_reducible refine Below.trans ?_ (Below.mono (by assumption) ?_)) | go_size))⟩
    simp only [results, Try.results10]; simp [*, go_sem, ↓IntWalk.iteOmega]; try (first | rfl | exact ⟨rfl, rfl⟩)

theorem do_xor (a b : Tn) (ha : a.right = true) (hb : b.right = true) (w : World) : Calls Try.prog 10 #[.int .u8 160, .agg #[.int .u64 (N a.v), .int .u64 (N a.m)], .agg #[.int .u64 (N b.v), .int .u64 (N b.m)]] w fun e w' => e = .returned (.tuple #[.agg #[.int .u64 (N ((Tn.do_ (160) a b).getD ⟨0, 0⟩).v), .int .u64 (N ((Tn.do_ (160) a b).getD ⟨0, 0⟩).m)], .bool (Tn.do_ (160) a b).isSome]) ∧ Below w.heap.size w w' := by
  cases hk : (b.m == 0#64) <;> cases hl : decide (b.v < 64#64)
  all_goals
    have E : Tn.do_ (160) a b = some (Tn.xor a b) := by unfold Tn.do_; simp [ha, hb]
    rw [E]; clear E
    go_enter Try.func10, Try.ntmps10
    go_wp2_with (first | (go_at_call 28; (with_reducible refine (both_c ⟨_, _⟩ ⟨_, _⟩ _).mono ?_); rintro e w1 ⟨rfl, hb1⟩; obtain ⟨hc1, hf1, hz1⟩ := bcell hb1; (try simp only [World.size_alloc, World.size_setCell, World.size_drew] at hc1 hf1 hz1)) | (go_at_call 30; (with_reducible refine (made_c _ _ _).mono ?_); rintro e w1 ⟨rfl, hb1⟩; obtain ⟨hc1, hf1, hz1⟩ := bcell hb1; (try simp only [World.size_alloc, World.size_setCell, World.size_drew] at hc1 hf1 hz1)))
    refine bodyPost_ret ?_ rfl ⟨rfl, (by repeat' (first | (with_reducible exact Below.refl _ _) | (with_reducible assumption) | (with_reducible refine Below.alloc ?_ ?_ _) | (with_reducible refine Below.setCell ?_ ?_ _) | (with_reducible refine Below.drew ?_) | (with_reducible refine Below.trans ?_ (Below.mono (by assumption) ?_)) | go_size))⟩
    simp only [results, Try.results10]; simp [*, go_sem, ↓IntWalk.iteOmega]; try (first | rfl | exact ⟨rfl, rfl⟩)

theorem do_lsh1 (a b : Tn) (ha : a.right = true) (hb : b.right = true) (hk : (b.m == 0#64) = true) (hl : decide (b.v < 64#64) = true) (w : World) : Calls Try.prog 10 #[.int .u8 96, .agg #[.int .u64 (N a.v), .int .u64 (N a.m)], .agg #[.int .u64 (N b.v), .int .u64 (N b.m)]] w fun e w' => e = .returned (.tuple #[.agg #[.int .u64 (N ((Tn.do_ (96) a b).getD ⟨0, 0⟩).v), .int .u64 (N ((Tn.do_ (96) a b).getD ⟨0, 0⟩).m)], .bool (Tn.do_ (96) a b).isSome]) ∧ Below w.heap.size w w' := by
  have E : Tn.do_ (96) a b = some ⟨a.v <<< b.v.toNat, a.m <<< b.v.toNat⟩ := by unfold Tn.do_; simp [ha, hb, Tn.moves, hk, hl]
  rw [E]; clear E
  go_enter Try.func10, Try.ntmps10
  go_wp2_with (first | (go_at_call 28; (with_reducible refine (both_c ⟨_, _⟩ ⟨_, _⟩ _).mono ?_); rintro e w1 ⟨rfl, hb1⟩; obtain ⟨hc1, hf1, hz1⟩ := bcell hb1; (try simp only [World.size_alloc, World.size_setCell, World.size_drew] at hc1 hf1 hz1)))
  refine bodyPost_ret ?_ rfl ⟨rfl, (by repeat' (first | (with_reducible exact Below.refl _ _) | (with_reducible assumption) | (with_reducible refine Below.alloc ?_ ?_ _) | (with_reducible refine Below.setCell ?_ ?_ _) | (with_reducible refine Below.drew ?_) | (with_reducible refine Below.trans ?_ (Below.mono (by assumption) ?_)) | go_size))⟩
  simp only [results, Try.results10]; simp [*, go_sem, ↓IntWalk.iteOmega]; try (first | rfl | exact ⟨rfl, rfl⟩)

theorem do_lsh2 (a b : Tn) (ha : a.right = true) (hb : b.right = true) (hk : (b.m == 0#64) = true) (hl : decide (b.v < 64#64) = false) (w : World) : Calls Try.prog 10 #[.int .u8 96, .agg #[.int .u64 (N a.v), .int .u64 (N a.m)], .agg #[.int .u64 (N b.v), .int .u64 (N b.m)]] w fun e w' => e = .returned (.tuple #[.agg #[.int .u64 (N ((Tn.do_ (96) a b).getD ⟨0, 0⟩).v), .int .u64 (N ((Tn.do_ (96) a b).getD ⟨0, 0⟩).m)], .bool (Tn.do_ (96) a b).isSome]) ∧ Below w.heap.size w w' := by
  have E : Tn.do_ (96) a b = none := by unfold Tn.do_; simp [ha, hb, Tn.moves, hk, hl]
  rw [E]; clear E
  go_enter Try.func10, Try.ntmps10
  go_wp2_with (first | (go_at_call 28; (with_reducible refine (both_c ⟨_, _⟩ ⟨_, _⟩ _).mono ?_); rintro e w1 ⟨rfl, hb1⟩; obtain ⟨hc1, hf1, hz1⟩ := bcell hb1; (try simp only [World.size_alloc, World.size_setCell, World.size_drew] at hc1 hf1 hz1)))
  refine bodyPost_ret ?_ rfl ⟨rfl, (by repeat' (first | (with_reducible exact Below.refl _ _) | (with_reducible assumption) | (with_reducible refine Below.alloc ?_ ?_ _) | (with_reducible refine Below.setCell ?_ ?_ _) | (with_reducible refine Below.drew ?_) | (with_reducible refine Below.trans ?_ (Below.mono (by assumption) ?_)) | go_size))⟩
  simp only [results, Try.results10]; simp [*, go_sem, ↓IntWalk.iteOmega]; try (first | rfl | exact ⟨rfl, rfl⟩)

theorem do_lsh3 (a b : Tn) (ha : a.right = true) (hb : b.right = true) (hk : (b.m == 0#64) = false) (w : World) : Calls Try.prog 10 #[.int .u8 96, .agg #[.int .u64 (N a.v), .int .u64 (N a.m)], .agg #[.int .u64 (N b.v), .int .u64 (N b.m)]] w fun e w' => e = .returned (.tuple #[.agg #[.int .u64 (N ((Tn.do_ (96) a b).getD ⟨0, 0⟩).v), .int .u64 (N ((Tn.do_ (96) a b).getD ⟨0, 0⟩).m)], .bool (Tn.do_ (96) a b).isSome]) ∧ Below w.heap.size w w' := by
  have E : Tn.do_ (96) a b = none := by unfold Tn.do_; simp [ha, hb, Tn.moves, hk]
  rw [E]; clear E
  go_enter Try.func10, Try.ntmps10
  go_wp2_with (first | (go_at_call 28; (with_reducible refine (both_c ⟨_, _⟩ ⟨_, _⟩ _).mono ?_); rintro e w1 ⟨rfl, hb1⟩; obtain ⟨hc1, hf1, hz1⟩ := bcell hb1; (try simp only [World.size_alloc, World.size_setCell, World.size_drew] at hc1 hf1 hz1)))
  refine bodyPost_ret ?_ rfl ⟨rfl, (by repeat' (first | (with_reducible exact Below.refl _ _) | (with_reducible assumption) | (with_reducible refine Below.alloc ?_ ?_ _) | (with_reducible refine Below.setCell ?_ ?_ _) | (with_reducible refine Below.drew ?_) | (with_reducible refine Below.trans ?_ (Below.mono (by assumption) ?_)) | go_size))⟩
  simp only [results, Try.results10]; simp [*, go_sem, ↓IntWalk.iteOmega]; try (first | rfl | exact ⟨rfl, rfl⟩)

theorem do_rsh1 (a b : Tn) (ha : a.right = true) (hb : b.right = true) (hk : (b.m == 0#64) = true) (hl : decide (b.v < 64#64) = true) (w : World) : Calls Try.prog 10 #[.int .u8 112, .agg #[.int .u64 (N a.v), .int .u64 (N a.m)], .agg #[.int .u64 (N b.v), .int .u64 (N b.m)]] w fun e w' => e = .returned (.tuple #[.agg #[.int .u64 (N ((Tn.do_ (112) a b).getD ⟨0, 0⟩).v), .int .u64 (N ((Tn.do_ (112) a b).getD ⟨0, 0⟩).m)], .bool (Tn.do_ (112) a b).isSome]) ∧ Below w.heap.size w w' := by
  have E : Tn.do_ (112) a b = some ⟨a.v >>> b.v.toNat, a.m >>> b.v.toNat⟩ := by unfold Tn.do_; simp [ha, hb, Tn.moves, hk, hl]
  rw [E]; clear E
  go_enter Try.func10, Try.ntmps10
  go_wp2_with (first | (go_at_call 28; (with_reducible refine (both_c ⟨_, _⟩ ⟨_, _⟩ _).mono ?_); rintro e w1 ⟨rfl, hb1⟩; obtain ⟨hc1, hf1, hz1⟩ := bcell hb1; (try simp only [World.size_alloc, World.size_setCell, World.size_drew] at hc1 hf1 hz1)))
  refine bodyPost_ret ?_ rfl ⟨rfl, (by repeat' (first | (with_reducible exact Below.refl _ _) | (with_reducible assumption) | (with_reducible refine Below.alloc ?_ ?_ _) | (with_reducible refine Below.setCell ?_ ?_ _) | (with_reducible refine Below.drew ?_) | (with_reducible refine Below.trans ?_ (Below.mono (by assumption) ?_)) | go_size))⟩
  simp only [results, Try.results10]; simp [*, go_sem, ↓IntWalk.iteOmega]; try (first | rfl | exact ⟨rfl, rfl⟩)

theorem do_rsh2 (a b : Tn) (ha : a.right = true) (hb : b.right = true) (hk : (b.m == 0#64) = true) (hl : decide (b.v < 64#64) = false) (w : World) : Calls Try.prog 10 #[.int .u8 112, .agg #[.int .u64 (N a.v), .int .u64 (N a.m)], .agg #[.int .u64 (N b.v), .int .u64 (N b.m)]] w fun e w' => e = .returned (.tuple #[.agg #[.int .u64 (N ((Tn.do_ (112) a b).getD ⟨0, 0⟩).v), .int .u64 (N ((Tn.do_ (112) a b).getD ⟨0, 0⟩).m)], .bool (Tn.do_ (112) a b).isSome]) ∧ Below w.heap.size w w' := by
  have E : Tn.do_ (112) a b = none := by unfold Tn.do_; simp [ha, hb, Tn.moves, hk, hl]
  rw [E]; clear E
  go_enter Try.func10, Try.ntmps10
  go_wp2_with (first | (go_at_call 28; (with_reducible refine (both_c ⟨_, _⟩ ⟨_, _⟩ _).mono ?_); rintro e w1 ⟨rfl, hb1⟩; obtain ⟨hc1, hf1, hz1⟩ := bcell hb1; (try simp only [World.size_alloc, World.size_setCell, World.size_drew] at hc1 hf1 hz1)))
  refine bodyPost_ret ?_ rfl ⟨rfl, (by repeat' (first | (with_reducible exact Below.refl _ _) | (with_reducible assumption) | (with_reducible refine Below.alloc ?_ ?_ _) | (with_reducible refine Below.setCell ?_ ?_ _) | (with_reducible refine Below.drew ?_) | (with_reducible refine Below.trans ?_ (Below.mono (by assumption) ?_)) | go_size))⟩
  simp only [results, Try.results10]; simp [*, go_sem, ↓IntWalk.iteOmega]; try (first | rfl | exact ⟨rfl, rfl⟩)

theorem do_rsh3 (a b : Tn) (ha : a.right = true) (hb : b.right = true) (hk : (b.m == 0#64) = false) (w : World) : Calls Try.prog 10 #[.int .u8 112, .agg #[.int .u64 (N a.v), .int .u64 (N a.m)], .agg #[.int .u64 (N b.v), .int .u64 (N b.m)]] w fun e w' => e = .returned (.tuple #[.agg #[.int .u64 (N ((Tn.do_ (112) a b).getD ⟨0, 0⟩).v), .int .u64 (N ((Tn.do_ (112) a b).getD ⟨0, 0⟩).m)], .bool (Tn.do_ (112) a b).isSome]) ∧ Below w.heap.size w w' := by
  have E : Tn.do_ (112) a b = none := by unfold Tn.do_; simp [ha, hb, Tn.moves, hk]
  rw [E]; clear E
  go_enter Try.func10, Try.ntmps10
  go_wp2_with (first | (go_at_call 28; (with_reducible refine (both_c ⟨_, _⟩ ⟨_, _⟩ _).mono ?_); rintro e w1 ⟨rfl, hb1⟩; obtain ⟨hc1, hf1, hz1⟩ := bcell hb1; (try simp only [World.size_alloc, World.size_setCell, World.size_drew] at hc1 hf1 hz1)))
  refine bodyPost_ret ?_ rfl ⟨rfl, (by repeat' (first | (with_reducible exact Below.refl _ _) | (with_reducible assumption) | (with_reducible refine Below.alloc ?_ ?_ _) | (with_reducible refine Below.setCell ?_ ?_ _) | (with_reducible refine Below.drew ?_) | (with_reducible refine Below.trans ?_ (Below.mono (by assumption) ?_)) | go_size))⟩
  simp only [results, Try.results10]; simp [*, go_sem, ↓IntWalk.iteOmega]; try (first | rfl | exact ⟨rfl, rfl⟩)

theorem do_else (op : Int) (a b : Tn) (ha : a.right = true) (hb : b.right = true) (n0 : ¬ op = 0) (n16 : ¬ op = 16) (n32 : ¬ op = 32) (n80 : ¬ op = 80) (n64 : ¬ op = 64) (n160 : ¬ op = 160) (n96 : ¬ op = 96) (n112 : ¬ op = 112) (w : World) : Calls Try.prog 10 #[.int .u8 op, .agg #[.int .u64 (N a.v), .int .u64 (N a.m)], .agg #[.int .u64 (N b.v), .int .u64 (N b.m)]] w fun e w' => e = .returned (.tuple #[.agg #[.int .u64 (N ((Tn.do_ (op) a b).getD ⟨0, 0⟩).v), .int .u64 (N ((Tn.do_ (op) a b).getD ⟨0, 0⟩).m)], .bool (Tn.do_ (op) a b).isSome]) ∧ Below w.heap.size w w' := by
  cases hk : (b.m == 0#64) <;> cases hl : decide (b.v < 64#64)
  all_goals
    have E : Tn.do_ (op) a b = none := by unfold Tn.do_; simp [ha, hb, n0, n16, n32, n80, n64, n160, n96, n112]
    rw [E]; clear E
    go_enter Try.func10, Try.ntmps10
    go_wp2_with (first | (go_at_call 28; (with_reducible refine (both_c ⟨_, _⟩ ⟨_, _⟩ _).mono ?_); rintro e w1 ⟨rfl, hb1⟩; obtain ⟨hc1, hf1, hz1⟩ := bcell hb1; (try simp only [World.size_alloc, World.size_setCell, World.size_drew] at hc1 hf1 hz1)))
    refine bodyPost_ret ?_ rfl ⟨rfl, (by repeat' (first | (with_reducible exact Below.refl _ _) | (with_reducible assumption) | (with_reducible refine Below.alloc ?_ ?_ _) | (with_reducible refine Below.setCell ?_ ?_ _) | (with_reducible refine Below.drew ?_) | (with_reducible refine Below.trans ?_ (Below.mono (by assumption) ?_)) | go_size))⟩
    simp only [results, Try.results10]; simp [*, go_sem, ↓IntWalk.iteOmega]; try (first | rfl | exact ⟨rfl, rfl⟩)

end Hk
