/- Package span: Do; old memory is as it was. No condition but those in each statement. -/
import Derived.Test.YtmhkngblpojeaaaProg
import Derived.Test.YtmhkngblpojeaaaGp
import Derived.Test.YtmhkngblpojeaaaGq
import Derived.Test.YtmhkngblpojeaaaGs
namespace Hk
open Go Go.RowKit Go.Proofs
set_option linter.unusedSimpArgs false
set_option linter.unusedVariables false
set_option maxRecDepth 100000
set_option maxHeartbeats 1000000
theorem sdo_no1 (op : Int) (a b : Sp) (h : a.right = false) (w : World) : Calls Try.prog 87 #[.int .u8 op, .agg #[.int .u64 (N a.lo), .int .u64 (N a.hi)], .agg #[.int .u64 (N b.lo), .int .u64 (N b.hi)]] w fun e w' => e = .returned (.agg #[.int .u64 (N (Sp.do_ (op) a b).lo), .int .u64 (N (Sp.do_ (op) a b).hi)]) ∧ Below w.heap.size w w' := by
  have E : Sp.do_ op a b = ⟨0, 0⟩ := by unfold Sp.do_; rw [h]; rfl
  rw [E]; clear E
  go_enter Try.func87, Try.ntmps87
  go_wp2_with (first | (go_at_call 50; (with_reducible refine (sright_c' _ _ _).mono ?_); rintro e w1 ⟨rfl, hb1⟩; obtain ⟨hc1, hf1, hz1⟩ := bcell hb1; (try simp only [World.size_alloc, World.size_setCell, World.size_drew] at hc1 hf1 hz1)))
  refine bodyPost_ret ?_ rfl ⟨rfl, (by repeat' (first | (with_reducible exact Below.refl _ _) | (with_reducible assumption) | (with_reducible refine Below.alloc ?_ ?_ _) | (with_reducible refine Below.setCell ?_ ?_ _) | (with_reducible refine Below.drew ?_) | (with_reducible refine below_dn ?_ _) | (with_reducible refine Below.trans ?_ (Below.mono (by assumption) ?_)) | go_size))⟩
  simp only [results, Try.results87]; simp [*, go_sem, ↓IntWalk.iteOmega]; try (first | rfl | exact ⟨rfl, rfl⟩)

theorem sdo_no2 (op : Int) (a b : Sp) (ha : a.right = true) (h : b.right = false) (w : World) : Calls Try.prog 87 #[.int .u8 op, .agg #[.int .u64 (N a.lo), .int .u64 (N a.hi)], .agg #[.int .u64 (N b.lo), .int .u64 (N b.hi)]] w fun e w' => e = .returned (.agg #[.int .u64 (N (Sp.do_ (op) a b).lo), .int .u64 (N (Sp.do_ (op) a b).hi)]) ∧ Below w.heap.size w w' := by
  have E : Sp.do_ op a b = ⟨0, 0⟩ := by unfold Sp.do_; rw [ha, h]; rfl
  rw [E]; clear E
  go_enter Try.func87, Try.ntmps87
  go_wp2_with (first | (go_at_call 50; (with_reducible refine (sright_c' _ _ _).mono ?_); rintro e w1 ⟨rfl, hb1⟩; obtain ⟨hc1, hf1, hz1⟩ := bcell hb1; (try simp only [World.size_alloc, World.size_setCell, World.size_drew] at hc1 hf1 hz1)))
  refine bodyPost_ret ?_ rfl ⟨rfl, (by repeat' (first | (with_reducible exact Below.refl _ _) | (with_reducible assumption) | (with_reducible refine Below.alloc ?_ ?_ _) | (with_reducible refine Below.setCell ?_ ?_ _) | (with_reducible refine Below.drew ?_) | (with_reducible refine below_dn ?_ _) | (with_reducible refine Below.trans ?_ (Below.mono (by assumption) ?_)) | go_size))⟩
  simp only [results, Try.results87]; simp [*, go_sem, ↓IntWalk.iteOmega]; try (first | rfl | exact ⟨rfl, rfl⟩)

theorem sdo_add1 (a b : Sp) (ha : a.right = true) (hb : b.right = true) (h : (Sp.over a.hi b.hi == 0#64) = true) (w : World) : Calls Try.prog 87 #[.int .u8 0, .agg #[.int .u64 (N a.lo), .int .u64 (N a.hi)], .agg #[.int .u64 (N b.lo), .int .u64 (N b.hi)]] w fun e w' => e = .returned (.agg #[.int .u64 (N (Sp.do_ (0) a b).lo), .int .u64 (N (Sp.do_ (0) a b).hi)]) ∧ Below w.heap.size w w' := by
  rw [Sp.do_add1 ha hb h]
  go_enter Try.func87, Try.ntmps87
  go_wp2_with (first | (go_at_call 50; (with_reducible refine (sright_c' _ _ _).mono ?_); rintro e w1 ⟨rfl, hb1⟩; obtain ⟨hc1, hf1, hz1⟩ := bcell hb1; (try simp only [World.size_alloc, World.size_setCell, World.size_drew] at hc1 hf1 hz1)) | (go_at_call 54; (with_reducible refine (sall_c _).mono ?_); rintro e w1 ⟨rfl, hb1⟩; obtain ⟨hc1, hf1, hz1⟩ := bcell hb1; (try simp only [World.size_alloc, World.size_setCell, World.size_drew] at hc1 hf1 hz1)))
  refine bodyPost_ret ?_ rfl ⟨rfl, (by repeat' (first | (with_reducible exact Below.refl _ _) | (with_reducible assumption) | (with_reducible refine Below.alloc ?_ ?_ _) | (with_reducible refine Below.setCell ?_ ?_ _) | (with_reducible refine Below.drew ?_) | (with_reducible refine below_dn ?_ _) | (with_reducible refine Below.trans ?_ (Below.mono (by assumption) ?_)) | go_size))⟩
  simp only [results, Try.results87]; simp [*, go_sem, ↓IntWalk.iteOmega]; try (first | rfl | exact ⟨rfl, rfl⟩)

theorem sdo_add2 (a b : Sp) (ha : a.right = true) (hb : b.right = true) (h : (Sp.over a.hi b.hi == 0#64) = false) (w : World) : Calls Try.prog 87 #[.int .u8 0, .agg #[.int .u64 (N a.lo), .int .u64 (N a.hi)], .agg #[.int .u64 (N b.lo), .int .u64 (N b.hi)]] w fun e w' => e = .returned (.agg #[.int .u64 (N (Sp.do_ (0) a b).lo), .int .u64 (N (Sp.do_ (0) a b).hi)]) ∧ Below w.heap.size w w' := by
  rw [Sp.do_add2 ha hb h]
  go_enter Try.func87, Try.ntmps87
  go_wp2_with (first | (go_at_call 50; (with_reducible refine (sright_c' _ _ _).mono ?_); rintro e w1 ⟨rfl, hb1⟩; obtain ⟨hc1, hf1, hz1⟩ := bcell hb1; (try simp only [World.size_alloc, World.size_setCell, World.size_drew] at hc1 hf1 hz1)) | (go_at_call 54; (with_reducible refine (sall_c _).mono ?_); rintro e w1 ⟨rfl, hb1⟩; obtain ⟨hc1, hf1, hz1⟩ := bcell hb1; (try simp only [World.size_alloc, World.size_setCell, World.size_drew] at hc1 hf1 hz1)))
  refine bodyPost_ret ?_ rfl ⟨rfl, (by repeat' (first | (with_reducible exact Below.refl _ _) | (with_reducible assumption) | (with_reducible refine Below.alloc ?_ ?_ _) | (with_reducible refine Below.setCell ?_ ?_ _) | (with_reducible refine Below.drew ?_) | (with_reducible refine below_dn ?_ _) | (with_reducible refine Below.trans ?_ (Below.mono (by assumption) ?_)) | go_size))⟩
  simp only [results, Try.results87]; simp [*, go_sem, ↓IntWalk.iteOmega]; try (first | rfl | exact ⟨rfl, rfl⟩)

theorem sdo_mul1 (a b : Sp) (ha : a.right = true) (hb : b.right = true) (h : (Sp.mulHi a.hi b.hi == 0#64) = true) (w : World) : Calls Try.prog 87 #[.int .u8 32, .agg #[.int .u64 (N a.lo), .int .u64 (N a.hi)], .agg #[.int .u64 (N b.lo), .int .u64 (N b.hi)]] w fun e w' => e = .returned (.agg #[.int .u64 (N (Sp.do_ (32) a b).lo), .int .u64 (N (Sp.do_ (32) a b).hi)]) ∧ Below w.heap.size w w' := by
  rw [Sp.do_mul1 ha hb h]
  go_enter Try.func87, Try.ntmps87
  go_wp2_with (first | (go_at_call 50; (with_reducible refine (sright_c' _ _ _).mono ?_); rintro e w1 ⟨rfl, hb1⟩; obtain ⟨hc1, hf1, hz1⟩ := bcell hb1; (try simp only [World.size_alloc, World.size_setCell, World.size_drew] at hc1 hf1 hz1)) | (go_at_call 54; (with_reducible refine (sall_c _).mono ?_); rintro e w1 ⟨rfl, hb1⟩; obtain ⟨hc1, hf1, hz1⟩ := bcell hb1; (try simp only [World.size_alloc, World.size_setCell, World.size_drew] at hc1 hf1 hz1)) | (go_at_call 110; (with_reducible refine (mul64_c _ _ _).mono ?_); rintro e w1 ⟨rfl, rfl⟩))
  refine bodyPost_ret ?_ rfl ⟨rfl, (by repeat' (first | (with_reducible exact Below.refl _ _) | (with_reducible assumption) | (with_reducible refine Below.alloc ?_ ?_ _) | (with_reducible refine Below.setCell ?_ ?_ _) | (with_reducible refine Below.drew ?_) | (with_reducible refine below_dn ?_ _) | (with_reducible refine Below.trans ?_ (Below.mono (by assumption) ?_)) | go_size))⟩
  simp only [results, Try.results87]; simp [*, go_sem, ↓IntWalk.iteOmega]; try (first | rfl | exact ⟨rfl, rfl⟩)

theorem sdo_mul2 (a b : Sp) (ha : a.right = true) (hb : b.right = true) (h : (Sp.mulHi a.hi b.hi == 0#64) = false) (w : World) : Calls Try.prog 87 #[.int .u8 32, .agg #[.int .u64 (N a.lo), .int .u64 (N a.hi)], .agg #[.int .u64 (N b.lo), .int .u64 (N b.hi)]] w fun e w' => e = .returned (.agg #[.int .u64 (N (Sp.do_ (32) a b).lo), .int .u64 (N (Sp.do_ (32) a b).hi)]) ∧ Below w.heap.size w w' := by
  rw [Sp.do_mul2 ha hb h]
  go_enter Try.func87, Try.ntmps87
  go_wp2_with (first | (go_at_call 50; (with_reducible refine (sright_c' _ _ _).mono ?_); rintro e w1 ⟨rfl, hb1⟩; obtain ⟨hc1, hf1, hz1⟩ := bcell hb1; (try simp only [World.size_alloc, World.size_setCell, World.size_drew] at hc1 hf1 hz1)) | (go_at_call 54; (with_reducible refine (sall_c _).mono ?_); rintro e w1 ⟨rfl, hb1⟩; obtain ⟨hc1, hf1, hz1⟩ := bcell hb1; (try simp only [World.size_alloc, World.size_setCell, World.size_drew] at hc1 hf1 hz1)) | (go_at_call 110; (with_reducible refine (mul64_c _ _ _).mono ?_); rintro e w1 ⟨rfl, rfl⟩))
  refine bodyPost_ret ?_ rfl ⟨rfl, (by repeat' (first | (with_reducible exact Below.refl _ _) | (with_reducible assumption) | (with_reducible refine Below.alloc ?_ ?_ _) | (with_reducible refine Below.setCell ?_ ?_ _) | (with_reducible refine Below.drew ?_) | (with_reducible refine below_dn ?_ _) | (with_reducible refine Below.trans ?_ (Below.mono (by assumption) ?_)) | go_size))⟩
  simp only [results, Try.results87]; simp [*, go_sem, ↓IntWalk.iteOmega]; try (first | rfl | exact ⟨rfl, rfl⟩)

theorem sdo_sub1 (a b : Sp) (ha : a.right = true) (hb : b.right = true) (h : decide (b.hi ≤ a.lo) = true) (w : World) : Calls Try.prog 87 #[.int .u8 16, .agg #[.int .u64 (N a.lo), .int .u64 (N a.hi)], .agg #[.int .u64 (N b.lo), .int .u64 (N b.hi)]] w fun e w' => e = .returned (.agg #[.int .u64 (N (Sp.do_ (16) a b).lo), .int .u64 (N (Sp.do_ (16) a b).hi)]) ∧ Below w.heap.size w w' := by
  rw [Sp.do_sub1 ha hb h]
  go_enter Try.func87, Try.ntmps87
  go_wp2_with (first | (go_at_call 50; (with_reducible refine (sright_c' _ _ _).mono ?_); rintro e w1 ⟨rfl, hb1⟩; obtain ⟨hc1, hf1, hz1⟩ := bcell hb1; (try simp only [World.size_alloc, World.size_setCell, World.size_drew] at hc1 hf1 hz1)) | (go_at_call 54; (with_reducible refine (sall_c _).mono ?_); rintro e w1 ⟨rfl, hb1⟩; obtain ⟨hc1, hf1, hz1⟩ := bcell hb1; (try simp only [World.size_alloc, World.size_setCell, World.size_drew] at hc1 hf1 hz1)))
  refine bodyPost_ret ?_ rfl ⟨rfl, (by repeat' (first | (with_reducible exact Below.refl _ _) | (with_reducible assumption) | (with_reducible refine Below.alloc ?_ ?_ _) | (with_reducible refine Below.setCell ?_ ?_ _) | (with_reducible refine Below.drew ?_) | (with_reducible refine below_dn ?_ _) | (with_reducible refine Below.trans ?_ (Below.mono (by assumption) ?_)) | go_size))⟩
  simp only [results, Try.results87]; simp [*, go_sem, ↓IntWalk.iteOmega]; try (first | rfl | exact ⟨rfl, rfl⟩)

theorem sdo_sub2 (a b : Sp) (ha : a.right = true) (hb : b.right = true) (h : decide (b.hi ≤ a.lo) = false) (w : World) : Calls Try.prog 87 #[.int .u8 16, .agg #[.int .u64 (N a.lo), .int .u64 (N a.hi)], .agg #[.int .u64 (N b.lo), .int .u64 (N b.hi)]] w fun e w' => e = .returned (.agg #[.int .u64 (N (Sp.do_ (16) a b).lo), .int .u64 (N (Sp.do_ (16) a b).hi)]) ∧ Below w.heap.size w w' := by
  rw [Sp.do_sub2 ha hb h]
  go_enter Try.func87, Try.ntmps87
  go_wp2_with (first | (go_at_call 50; (with_reducible refine (sright_c' _ _ _).mono ?_); rintro e w1 ⟨rfl, hb1⟩; obtain ⟨hc1, hf1, hz1⟩ := bcell hb1; (try simp only [World.size_alloc, World.size_setCell, World.size_drew] at hc1 hf1 hz1)) | (go_at_call 54; (with_reducible refine (sall_c _).mono ?_); rintro e w1 ⟨rfl, hb1⟩; obtain ⟨hc1, hf1, hz1⟩ := bcell hb1; (try simp only [World.size_alloc, World.size_setCell, World.size_drew] at hc1 hf1 hz1)))
  refine bodyPost_ret ?_ rfl ⟨rfl, (by repeat' (first | (with_reducible exact Below.refl _ _) | (with_reducible assumption) | (with_reducible refine Below.alloc ?_ ?_ _) | (with_reducible refine Below.setCell ?_ ?_ _) | (with_reducible refine Below.drew ?_) | (with_reducible refine below_dn ?_ _) | (with_reducible refine Below.trans ?_ (Below.mono (by assumption) ?_)) | go_size))⟩
  simp only [results, Try.results87]; simp [*, go_sem, ↓IntWalk.iteOmega]; try (first | rfl | exact ⟨rfl, rfl⟩)

theorem sdo_and (a b : Sp) (ha : a.right = true) (hb : b.right = true)  (w : World) : Calls Try.prog 87 #[.int .u8 80, .agg #[.int .u64 (N a.lo), .int .u64 (N a.hi)], .agg #[.int .u64 (N b.lo), .int .u64 (N b.hi)]] w fun e w' => e = .returned (.agg #[.int .u64 (N (Sp.do_ (80) a b).lo), .int .u64 (N (Sp.do_ (80) a b).hi)]) ∧ Below w.heap.size w w' := by
  rw [Sp.do_and ha hb]
  go_enter Try.func87, Try.ntmps87
  go_wp2_with (first | (go_at_call 50; (with_reducible refine (sright_c' _ _ _).mono ?_); rintro e w1 ⟨rfl, hb1⟩; obtain ⟨hc1, hf1, hz1⟩ := bcell hb1; (try simp only [World.size_alloc, World.size_setCell, World.size_drew] at hc1 hf1 hz1)) | (go_at_call 54; (with_reducible refine (sall_c _).mono ?_); rintro e w1 ⟨rfl, hb1⟩; obtain ⟨hc1, hf1, hz1⟩ := bcell hb1; (try simp only [World.size_alloc, World.size_setCell, World.size_drew] at hc1 hf1 hz1)))
  refine bodyPost_ret ?_ rfl ⟨rfl, (by repeat' (first | (with_reducible exact Below.refl _ _) | (with_reducible assumption) | (with_reducible refine Below.alloc ?_ ?_ _) | (with_reducible refine Below.setCell ?_ ?_ _) | (with_reducible refine Below.drew ?_) | (with_reducible refine below_dn ?_ _) | (with_reducible refine Below.trans ?_ (Below.mono (by assumption) ?_)) | go_size))⟩
  simp only [results, Try.results87]; simp [*, go_sem, ↓IntWalk.iteOmega]; try (first | rfl | exact ⟨rfl, rfl⟩)

theorem sdo_div1 (a b : Sp) (ha : a.right = true) (hb : b.right = true) (h : decide (0#64 < b.lo) = true) (w : World) : Calls Try.prog 87 #[.int .u8 48, .agg #[.int .u64 (N a.lo), .int .u64 (N a.hi)], .agg #[.int .u64 (N b.lo), .int .u64 (N b.hi)]] w fun e w' => e = .returned (.agg #[.int .u64 (N (Sp.do_ (48) a b).lo), .int .u64 (N (Sp.do_ (48) a b).hi)]) ∧ Below w.heap.size w w' := by
  rw [Sp.do_div1 ha hb h]
  obtain ⟨d1, d2⟩ := Sp.div_pos hb h
  go_enter Try.func87, Try.ntmps87
  go_wp2_with (first | (go_at_call 50; (with_reducible refine (sright_c' _ _ _).mono ?_); rintro e w1 ⟨rfl, hb1⟩; obtain ⟨hc1, hf1, hz1⟩ := bcell hb1; (try simp only [World.size_alloc, World.size_setCell, World.size_drew] at hc1 hf1 hz1)) | (go_at_call 54; (with_reducible refine (sall_c _).mono ?_); rintro e w1 ⟨rfl, hb1⟩; obtain ⟨hc1, hf1, hz1⟩ := bcell hb1; (try simp only [World.size_alloc, World.size_setCell, World.size_drew] at hc1 hf1 hz1)))
  go_region
  go_wp2
  refine bodyPost_ret ?_ rfl ⟨rfl, (by repeat' (first | (with_reducible exact Below.refl _ _) | (with_reducible assumption) | (with_reducible refine Below.alloc ?_ ?_ _) | (with_reducible refine Below.setCell ?_ ?_ _) | (with_reducible refine Below.drew ?_) | (with_reducible refine below_dn ?_ _) | (with_reducible refine Below.trans ?_ (Below.mono (by assumption) ?_)) | go_size))⟩
  simp only [results, Try.results87]; simp [*, go_sem, ↓IntWalk.iteOmega]; try (first | rfl | exact ⟨rfl, rfl⟩)

theorem sdo_div2 (a b : Sp) (ha : a.right = true) (hb : b.right = true) (h : decide (0#64 < b.lo) = false) (w : World) : Calls Try.prog 87 #[.int .u8 48, .agg #[.int .u64 (N a.lo), .int .u64 (N a.hi)], .agg #[.int .u64 (N b.lo), .int .u64 (N b.hi)]] w fun e w' => e = .returned (.agg #[.int .u64 (N (Sp.do_ (48) a b).lo), .int .u64 (N (Sp.do_ (48) a b).hi)]) ∧ Below w.heap.size w w' := by
  rw [Sp.do_div2 ha hb h]
  go_enter Try.func87, Try.ntmps87
  go_wp2_with (first | (go_at_call 50; (with_reducible refine (sright_c' _ _ _).mono ?_); rintro e w1 ⟨rfl, hb1⟩; obtain ⟨hc1, hf1, hz1⟩ := bcell hb1; (try simp only [World.size_alloc, World.size_setCell, World.size_drew] at hc1 hf1 hz1)) | (go_at_call 54; (with_reducible refine (sall_c _).mono ?_); rintro e w1 ⟨rfl, hb1⟩; obtain ⟨hc1, hf1, hz1⟩ := bcell hb1; (try simp only [World.size_alloc, World.size_setCell, World.size_drew] at hc1 hf1 hz1)))
  refine bodyPost_ret ?_ rfl ⟨rfl, (by repeat' (first | (with_reducible exact Below.refl _ _) | (with_reducible assumption) | (with_reducible refine Below.alloc ?_ ?_ _) | (with_reducible refine Below.setCell ?_ ?_ _) | (with_reducible refine Below.drew ?_) | (with_reducible refine below_dn ?_ _) | (with_reducible refine Below.trans ?_ (Below.mono (by assumption) ?_)) | go_size))⟩
  simp only [results, Try.results87]; simp [*, go_sem, ↓IntWalk.iteOmega]; try (first | rfl | exact ⟨rfl, rfl⟩)

theorem sdo_mod1 (a b : Sp) (ha : a.right = true) (hb : b.right = true) (h : decide (0#64 < b.lo) = true) (w : World) : Calls Try.prog 87 #[.int .u8 144, .agg #[.int .u64 (N a.lo), .int .u64 (N a.hi)], .agg #[.int .u64 (N b.lo), .int .u64 (N b.hi)]] w fun e w' => e = .returned (.agg #[.int .u64 (N (Sp.do_ (144) a b).lo), .int .u64 (N (Sp.do_ (144) a b).hi)]) ∧ Below w.heap.size w w' := by
  rw [Sp.do_mod1 ha hb h]
  go_enter Try.func87, Try.ntmps87
  go_wp2_with (first | (go_at_call 50; (with_reducible refine (sright_c' _ _ _).mono ?_); rintro e w1 ⟨rfl, hb1⟩; obtain ⟨hc1, hf1, hz1⟩ := bcell hb1; (try simp only [World.size_alloc, World.size_setCell, World.size_drew] at hc1 hf1 hz1)) | (go_at_call 54; (with_reducible refine (sall_c _).mono ?_); rintro e w1 ⟨rfl, hb1⟩; obtain ⟨hc1, hf1, hz1⟩ := bcell hb1; (try simp only [World.size_alloc, World.size_setCell, World.size_drew] at hc1 hf1 hz1)))
  refine bodyPost_ret ?_ rfl ⟨rfl, (by repeat' (first | (with_reducible exact Below.refl _ _) | (with_reducible assumption) | (with_reducible refine Below.alloc ?_ ?_ _) | (with_reducible refine Below.setCell ?_ ?_ _) | (with_reducible refine Below.drew ?_) | (with_reducible refine below_dn ?_ _) | (with_reducible refine Below.trans ?_ (Below.mono (by assumption) ?_)) | go_size))⟩
  simp only [results, Try.results87]; simp [*, go_sem, ↓IntWalk.iteOmega]; try (first | rfl | exact ⟨rfl, rfl⟩)

theorem sdo_mod2 (a b : Sp) (ha : a.right = true) (hb : b.right = true) (h : decide (0#64 < b.lo) = false) (w : World) : Calls Try.prog 87 #[.int .u8 144, .agg #[.int .u64 (N a.lo), .int .u64 (N a.hi)], .agg #[.int .u64 (N b.lo), .int .u64 (N b.hi)]] w fun e w' => e = .returned (.agg #[.int .u64 (N (Sp.do_ (144) a b).lo), .int .u64 (N (Sp.do_ (144) a b).hi)]) ∧ Below w.heap.size w w' := by
  rw [Sp.do_mod2 ha hb h]
  go_enter Try.func87, Try.ntmps87
  go_wp2_with (first | (go_at_call 50; (with_reducible refine (sright_c' _ _ _).mono ?_); rintro e w1 ⟨rfl, hb1⟩; obtain ⟨hc1, hf1, hz1⟩ := bcell hb1; (try simp only [World.size_alloc, World.size_setCell, World.size_drew] at hc1 hf1 hz1)) | (go_at_call 54; (with_reducible refine (sall_c _).mono ?_); rintro e w1 ⟨rfl, hb1⟩; obtain ⟨hc1, hf1, hz1⟩ := bcell hb1; (try simp only [World.size_alloc, World.size_setCell, World.size_drew] at hc1 hf1 hz1)))
  refine bodyPost_ret ?_ rfl ⟨rfl, (by repeat' (first | (with_reducible exact Below.refl _ _) | (with_reducible assumption) | (with_reducible refine Below.alloc ?_ ?_ _) | (with_reducible refine Below.setCell ?_ ?_ _) | (with_reducible refine Below.drew ?_) | (with_reducible refine below_dn ?_ _) | (with_reducible refine Below.trans ?_ (Below.mono (by assumption) ?_)) | go_size))⟩
  simp only [results, Try.results87]; simp [*, go_sem, ↓IntWalk.iteOmega]; try (first | rfl | exact ⟨rfl, rfl⟩)

theorem sdo_rsh1 (a b : Sp) (ha : a.right = true) (hb : b.right = true) (h : decide (b.hi < 64#64) = true) (w : World) : Calls Try.prog 87 #[.int .u8 112, .agg #[.int .u64 (N a.lo), .int .u64 (N a.hi)], .agg #[.int .u64 (N b.lo), .int .u64 (N b.hi)]] w fun e w' => e = .returned (.agg #[.int .u64 (N (Sp.do_ (112) a b).lo), .int .u64 (N (Sp.do_ (112) a b).hi)]) ∧ Below w.heap.size w w' := by
  rw [Sp.do_rsh1 ha hb h]
  go_enter Try.func87, Try.ntmps87
  go_wp2_with (first | (go_at_call 50; (with_reducible refine (sright_c' _ _ _).mono ?_); rintro e w1 ⟨rfl, hb1⟩; obtain ⟨hc1, hf1, hz1⟩ := bcell hb1; (try simp only [World.size_alloc, World.size_setCell, World.size_drew] at hc1 hf1 hz1)) | (go_at_call 54; (with_reducible refine (sall_c _).mono ?_); rintro e w1 ⟨rfl, hb1⟩; obtain ⟨hc1, hf1, hz1⟩ := bcell hb1; (try simp only [World.size_alloc, World.size_setCell, World.size_drew] at hc1 hf1 hz1)))
  refine bodyPost_ret ?_ rfl ⟨rfl, (by repeat' (first | (with_reducible exact Below.refl _ _) | (with_reducible assumption) | (with_reducible refine Below.alloc ?_ ?_ _) | (with_reducible refine Below.setCell ?_ ?_ _) | (with_reducible refine Below.drew ?_) | (with_reducible refine below_dn ?_ _) | (with_reducible refine Below.trans ?_ (Below.mono (by assumption) ?_)) | go_size))⟩
  simp only [results, Try.results87]; simp [*, go_sem, ↓IntWalk.iteOmega]; try (first | rfl | exact ⟨rfl, rfl⟩)

theorem sdo_rsh2 (a b : Sp) (ha : a.right = true) (hb : b.right = true) (h : decide (b.hi < 64#64) = false) (w : World) : Calls Try.prog 87 #[.int .u8 112, .agg #[.int .u64 (N a.lo), .int .u64 (N a.hi)], .agg #[.int .u64 (N b.lo), .int .u64 (N b.hi)]] w fun e w' => e = .returned (.agg #[.int .u64 (N (Sp.do_ (112) a b).lo), .int .u64 (N (Sp.do_ (112) a b).hi)]) ∧ Below w.heap.size w w' := by
  rw [Sp.do_rsh2 ha hb h]
  go_enter Try.func87, Try.ntmps87
  go_wp2_with (first | (go_at_call 50; (with_reducible refine (sright_c' _ _ _).mono ?_); rintro e w1 ⟨rfl, hb1⟩; obtain ⟨hc1, hf1, hz1⟩ := bcell hb1; (try simp only [World.size_alloc, World.size_setCell, World.size_drew] at hc1 hf1 hz1)) | (go_at_call 54; (with_reducible refine (sall_c _).mono ?_); rintro e w1 ⟨rfl, hb1⟩; obtain ⟨hc1, hf1, hz1⟩ := bcell hb1; (try simp only [World.size_alloc, World.size_setCell, World.size_drew] at hc1 hf1 hz1)))
  refine bodyPost_ret ?_ rfl ⟨rfl, (by repeat' (first | (with_reducible exact Below.refl _ _) | (with_reducible assumption) | (with_reducible refine Below.alloc ?_ ?_ _) | (with_reducible refine Below.setCell ?_ ?_ _) | (with_reducible refine Below.drew ?_) | (with_reducible refine below_dn ?_ _) | (with_reducible refine Below.trans ?_ (Below.mono (by assumption) ?_)) | go_size))⟩
  simp only [results, Try.results87]; simp [*, go_sem, ↓IntWalk.iteOmega]; try (first | rfl | exact ⟨rfl, rfl⟩)

theorem sdo_else (op : Int) (a b : Sp) (ha : a.right = true) (hb : b.right = true) (n0 : ¬ op = 0) (n32 : ¬ op = 32) (n16 : ¬ op = 16) (n80 : ¬ op = 80) (n48 : ¬ op = 48) (n144 : ¬ op = 144) (n112 : ¬ op = 112) (w : World) : Calls Try.prog 87 #[.int .u8 op, .agg #[.int .u64 (N a.lo), .int .u64 (N a.hi)], .agg #[.int .u64 (N b.lo), .int .u64 (N b.hi)]] w fun e w' => e = .returned (.agg #[.int .u64 (N (Sp.do_ (op) a b).lo), .int .u64 (N (Sp.do_ (op) a b).hi)]) ∧ Below w.heap.size w w' := by
  rw [Sp.do_else ha hb op n0 n32 n16 n80 n48 n144 n112]
  go_enter Try.func87, Try.ntmps87
  go_wp2_with (first | (go_at_call 50; (with_reducible refine (sright_c' _ _ _).mono ?_); rintro e w1 ⟨rfl, hb1⟩; obtain ⟨hc1, hf1, hz1⟩ := bcell hb1; (try simp only [World.size_alloc, World.size_setCell, World.size_drew] at hc1 hf1 hz1)) | (go_at_call 54; (with_reducible refine (sall_c _).mono ?_); rintro e w1 ⟨rfl, hb1⟩; obtain ⟨hc1, hf1, hz1⟩ := bcell hb1; (try simp only [World.size_alloc, World.size_setCell, World.size_drew] at hc1 hf1 hz1)))
  refine bodyPost_ret ?_ rfl ⟨rfl, (by repeat' (first | (with_reducible exact Below.refl _ _) | (with_reducible assumption) | (with_reducible refine Below.alloc ?_ ?_ _) | (with_reducible refine Below.setCell ?_ ?_ _) | (with_reducible refine Below.drew ?_) | (with_reducible refine below_dn ?_ _) | (with_reducible refine Below.trans ?_ (Below.mono (by assumption) ?_)) | go_size))⟩
  simp only [results, Try.results87]; simp [*, go_sem, ↓IntWalk.iteOmega]; try (first | rfl | exact ⟨rfl, rfl⟩)

theorem sdo_c (op : Int) (a b : Sp) (w : World) : Calls Try.prog 87 #[.int .u8 op, .agg #[.int .u64 (N a.lo), .int .u64 (N a.hi)], .agg #[.int .u64 (N b.lo), .int .u64 (N b.hi)]] w fun e w' => e = .returned (.agg #[.int .u64 (N (Sp.do_ (op) a b).lo), .int .u64 (N (Sp.do_ (op) a b).hi)]) ∧ Below w.heap.size w w' := by
  cases ha : a.right
  · exact sdo_no1 op a b ha w
  cases hb : b.right
  · exact sdo_no2 op a b ha hb w
  by_cases n0 : op = 0
  · subst n0
    cases h : (Sp.over a.hi b.hi == 0#64)
    · exact sdo_add2 a b ha hb h w
    · exact sdo_add1 a b ha hb h w
  by_cases n32 : op = 32
  · subst n32
    cases h : (Sp.mulHi a.hi b.hi == 0#64)
    · exact sdo_mul2 a b ha hb h w
    · exact sdo_mul1 a b ha hb h w
  by_cases n16 : op = 16
  · subst n16
    cases h : decide (b.hi ≤ a.lo)
    · exact sdo_sub2 a b ha hb h w
    · exact sdo_sub1 a b ha hb h w
  by_cases n48 : op = 48
  · subst n48
    cases h : decide (0#64 < b.lo)
    · exact sdo_div2 a b ha hb h w
    · exact sdo_div1 a b ha hb h w
  by_cases n144 : op = 144
  · subst n144
    cases h : decide (0#64 < b.lo)
    · exact sdo_mod2 a b ha hb h w
    · exact sdo_mod1 a b ha hb h w
  by_cases n112 : op = 112
  · subst n112
    cases h : decide (b.hi < 64#64)
    · exact sdo_rsh2 a b ha hb h w
    · exact sdo_rsh1 a b ha hb h w
  by_cases n80 : op = 80
  · subst n80; exact sdo_and a b ha hb w
  exact sdo_else op a b ha hb n0 n32 n16 n80 n48 n144 n112 w

theorem sdo_c' (x0 : Int) (x1 y1 : BitVec 64) (x2 y2 : BitVec 64) (w : World) : Calls Try.prog 87 #[.int .u8 x0, .agg #[.int .u64 (N x1), .int .u64 (N y1)], .agg #[.int .u64 (N x2), .int .u64 (N y2)]] w fun e w' => e = .returned (.agg #[.int .u64 (N (Sp.do_ x0 (⟨x1, y1⟩ : Sp) (⟨x2, y2⟩ : Sp)).lo), .int .u64 (N (Sp.do_ x0 (⟨x1, y1⟩ : Sp) (⟨x2, y2⟩ : Sp)).hi)]) ∧ Below w.heap.size w w' := by
  exact sdo_c x0 (⟨x1, y1⟩ : Sp) (⟨x2, y2⟩ : Sp) w

end Hk
