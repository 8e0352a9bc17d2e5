/- The reference of spans: fits, Do; old memory is as it was. No condition but those in each statement. -/
import Derived.Test.YtmhkngblpojeaaaProg
import Derived.Test.YtmhkngblpojeaaaGp
import Derived.Test.YtmhkngblpojeaaaGq
import Derived.Test.YtmhkngblpojeaaaGs
namespace Hk
open Go Go.RowKit Go.Proofs
set_option linter.unusedSimpArgs false
set_option linter.unusedVariables false
set_option maxRecDepth 100000
/-- the reference's test that a sum is below 2^64 -/
theorem Sp.add_ref (x y : BitVec 64) : decide (x ≤ 18446744073709551615#64 - y) = (Sp.over x y == 0#64) := by
  rw [Sp.over_zero]
  apply decide_eq_decide.2
  rw [BitVec.le_def, BitVec.toNat_sub]
  have hx := x.isLt
  have hy := y.isLt
  have e : (18446744073709551615#64).toNat = 18446744073709551615 := rfl
  rw [e]
  omega
/-- and that a product is -/
theorem Sp.mul_ref {x y : BitVec 64} (h : (x == 0#64) = false) : (Sp.mulHi x y == 0#64) = decide (y ≤ 18446744073709551615#64 / x) := by
  rw [Sp.mulHi_zero]
  apply decide_eq_decide.2
  have h0 : x ≠ 0#64 := by simpa using h
  have h1 : 0 < x.toNat := by
    rcases Nat.eq_zero_or_pos x.toNat with e | e
    · exact absurd (BitVec.eq_of_toNat_eq (by simpa using e)) h0
    · exact e
  rw [BitVec.le_def, BitVec.toNat_udiv]
  have e : (18446744073709551615#64).toNat = 18446744073709551615 := rfl
  rw [e, Nat.le_div_iff_mul_le h1, Nat.mul_comm y.toNat]
  omega
theorem Sp.mul_ref0 {x y : BitVec 64} (h : (x == 0#64) = true) : (Sp.mulHi x y == 0#64) = true := by
  rw [Sp.mulHi_zero, beq_iff_eq.1 h]
  simp

theorem rsfits_0 (a b : BitVec 64) (h : (a == 0#64) = true) (w : World) : Calls Try.prog 114 #[.int .u64 (N a), .int .u64 (N b)] w fun e w' => e = .returned (.bool ((Sp.mulHi a b == 0#64))) ∧ Below w.heap.size w w' := by
  rw [Sp.mul_ref0 h]
  go_enter Try.func114, Try.ntmps114
  go_wp2
  go_ret
  exact ⟨rfl, (by repeat' (first | (with_reducible exact Below.refl _ _) | (with_reducible assumption) | (with_reducible refine Below.alloc ?_ ?_ _) | (with_reducible refine Below.setCell ?_ ?_ _) | (with_reducible refine Below.drew ?_) | (with_reducible refine below_dn ?_ _) | (with_reducible refine Below.trans ?_ (Below.mono (by assumption) ?_)) | go_size))⟩

theorem rsfits_1 (a b : BitVec 64) (h : (a == 0#64) = false) (w : World) : Calls Try.prog 114 #[.int .u64 (N a), .int .u64 (N b)] w fun e w' => e = .returned (.bool ((Sp.mulHi a b == 0#64))) ∧ Below w.heap.size w w' := by
  rw [Sp.mul_ref h]
  have d : a ≠ 0#64 := by simpa using h
  go_enter Try.func114, Try.ntmps114
  go_wp2
  go_ret
  exact ⟨rfl, (by repeat' (first | (with_reducible exact Below.refl _ _) | (with_reducible assumption) | (with_reducible refine Below.alloc ?_ ?_ _) | (with_reducible refine Below.setCell ?_ ?_ _) | (with_reducible refine Below.drew ?_) | (with_reducible refine below_dn ?_ _) | (with_reducible refine Below.trans ?_ (Below.mono (by assumption) ?_)) | go_size))⟩

theorem rsfits_c (a b : BitVec 64) (w : World) : Calls Try.prog 114 #[.int .u64 (N a), .int .u64 (N b)] w fun e w' => e = .returned (.bool ((Sp.mulHi a b == 0#64))) ∧ Below w.heap.size w w' := by
  cases h : (a == 0#64)
  · exact rsfits_1 a b h w
  · exact rsfits_0 a b h w

set_option maxHeartbeats 1000000
theorem rsdo_no1 (op : Int) (a b : Sp) (h : a.right = false) (w : World) : Calls Try.prog 89 #[.int .u8 op, .agg #[.int .u64 (N a.lo), .int .u64 (N a.hi)], .agg #[.int .u64 (N b.lo), .int .u64 (N b.hi)]] w fun e w' => e = .returned (.agg #[.int .u64 (N (Sp.do_ (op) a b).lo), .int .u64 (N (Sp.do_ (op) a b).hi)]) ∧ Below w.heap.size w w' := by
  have E : Sp.do_ op a b = ⟨0, 0⟩ := by unfold Sp.do_; rw [h]; rfl
  rw [E]; clear E
  go_enter Try.func89, Try.ntmps89
  go_wp2_with (first | (go_at_call 96; (with_reducible refine (rsboth_c' _ _ _ _ _).mono ?_); rintro e w1 ⟨rfl, hb1⟩; obtain ⟨hc1, hf1, hz1⟩ := bcell hb1; (try simp only [World.size_alloc, World.size_setCell, World.size_drew] at hc1 hf1 hz1)))
  refine bodyPost_ret ?_ rfl ⟨rfl, (by repeat' (first | (with_reducible exact Below.refl _ _) | (with_reducible assumption) | (with_reducible refine Below.alloc ?_ ?_ _) | (with_reducible refine Below.setCell ?_ ?_ _) | (with_reducible refine Below.drew ?_) | (with_reducible refine below_dn ?_ _) | (with_reducible refine Below.trans ?_ (Below.mono (by assumption) ?_)) | go_size))⟩
  simp only [results, Try.results89]; simp [*, go_sem, ↓IntWalk.iteOmega]; try (first | rfl | exact ⟨rfl, rfl⟩)

theorem rsdo_no2 (op : Int) (a b : Sp) (ha : a.right = true) (h : b.right = false) (w : World) : Calls Try.prog 89 #[.int .u8 op, .agg #[.int .u64 (N a.lo), .int .u64 (N a.hi)], .agg #[.int .u64 (N b.lo), .int .u64 (N b.hi)]] w fun e w' => e = .returned (.agg #[.int .u64 (N (Sp.do_ (op) a b).lo), .int .u64 (N (Sp.do_ (op) a b).hi)]) ∧ Below w.heap.size w w' := by
  have E : Sp.do_ op a b = ⟨0, 0⟩ := by unfold Sp.do_; rw [ha, h]; rfl
  rw [E]; clear E
  go_enter Try.func89, Try.ntmps89
  go_wp2_with (first | (go_at_call 96; (with_reducible refine (rsboth_c' _ _ _ _ _).mono ?_); rintro e w1 ⟨rfl, hb1⟩; obtain ⟨hc1, hf1, hz1⟩ := bcell hb1; (try simp only [World.size_alloc, World.size_setCell, World.size_drew] at hc1 hf1 hz1)))
  refine bodyPost_ret ?_ rfl ⟨rfl, (by repeat' (first | (with_reducible exact Below.refl _ _) | (with_reducible assumption) | (with_reducible refine Below.alloc ?_ ?_ _) | (with_reducible refine Below.setCell ?_ ?_ _) | (with_reducible refine Below.drew ?_) | (with_reducible refine below_dn ?_ _) | (with_reducible refine Below.trans ?_ (Below.mono (by assumption) ?_)) | go_size))⟩
  simp only [results, Try.results89]; simp [*, go_sem, ↓IntWalk.iteOmega]; try (first | rfl | exact ⟨rfl, rfl⟩)

theorem rsdo_add1 (a b : Sp) (ha : a.right = true) (hb : b.right = true) (h : decide (a.hi ≤ 18446744073709551615#64 - b.hi) = true) (w : World) : Calls Try.prog 89 #[.int .u8 0, .agg #[.int .u64 (N a.lo), .int .u64 (N a.hi)], .agg #[.int .u64 (N b.lo), .int .u64 (N b.hi)]] w fun e w' => e = .returned (.agg #[.int .u64 (N (Sp.do_ (0) a b).lo), .int .u64 (N (Sp.do_ (0) a b).hi)]) ∧ Below w.heap.size w w' := by
  rw [Sp.do_add1 ha hb ((Sp.add_ref a.hi b.hi).symm.trans h)]
  go_enter Try.func89, Try.ntmps89
  go_wp2_with (first | (go_at_call 96; (with_reducible refine (rsboth_c' _ _ _ _ _).mono ?_); rintro e w1 ⟨rfl, hb1⟩; obtain ⟨hc1, hf1, hz1⟩ := bcell hb1; (try simp only [World.size_alloc, World.size_setCell, World.size_drew] at hc1 hf1 hz1)) | (go_at_call 55; (with_reducible refine (rsall_c _).mono ?_); rintro e w1 ⟨rfl, hb1⟩; obtain ⟨hc1, hf1, hz1⟩ := bcell hb1; (try simp only [World.size_alloc, World.size_setCell, World.size_drew] at hc1 hf1 hz1)))
  refine bodyPost_ret ?_ rfl ⟨rfl, (by repeat' (first | (with_reducible exact Below.refl _ _) | (with_reducible assumption) | (with_reducible refine Below.alloc ?_ ?_ _) | (with_reducible refine Below.setCell ?_ ?_ _) | (with_reducible refine Below.drew ?_) | (with_reducible refine below_dn ?_ _) | (with_reducible refine Below.trans ?_ (Below.mono (by assumption) ?_)) | go_size))⟩
  simp only [results, Try.results89]; simp [*, go_sem, ↓IntWalk.iteOmega]; try (first | rfl | exact ⟨rfl, rfl⟩)

theorem rsdo_add2 (a b : Sp) (ha : a.right = true) (hb : b.right = true) (h : decide (a.hi ≤ 18446744073709551615#64 - b.hi) = false) (w : World) : Calls Try.prog 89 #[.int .u8 0, .agg #[.int .u64 (N a.lo), .int .u64 (N a.hi)], .agg #[.int .u64 (N b.lo), .int .u64 (N b.hi)]] w fun e w' => e = .returned (.agg #[.int .u64 (N (Sp.do_ (0) a b).lo), .int .u64 (N (Sp.do_ (0) a b).hi)]) ∧ Below w.heap.size w w' := by
  rw [Sp.do_add2 ha hb ((Sp.add_ref a.hi b.hi).symm.trans h)]
  go_enter Try.func89, Try.ntmps89
  go_wp2_with (first | (go_at_call 96; (with_reducible refine (rsboth_c' _ _ _ _ _).mono ?_); rintro e w1 ⟨rfl, hb1⟩; obtain ⟨hc1, hf1, hz1⟩ := bcell hb1; (try simp only [World.size_alloc, World.size_setCell, World.size_drew] at hc1 hf1 hz1)) | (go_at_call 55; (with_reducible refine (rsall_c _).mono ?_); rintro e w1 ⟨rfl, hb1⟩; obtain ⟨hc1, hf1, hz1⟩ := bcell hb1; (try simp only [World.size_alloc, World.size_setCell, World.size_drew] at hc1 hf1 hz1)))
  refine bodyPost_ret ?_ rfl ⟨rfl, (by repeat' (first | (with_reducible exact Below.refl _ _) | (with_reducible assumption) | (with_reducible refine Below.alloc ?_ ?_ _) | (with_reducible refine Below.setCell ?_ ?_ _) | (with_reducible refine Below.drew ?_) | (with_reducible refine below_dn ?_ _) | (with_reducible refine Below.trans ?_ (Below.mono (by assumption) ?_)) | go_size))⟩
  simp only [results, Try.results89]; simp [*, go_sem, ↓IntWalk.iteOmega]; try (first | rfl | exact ⟨rfl, rfl⟩)

theorem rsdo_mul1 (a b : Sp) (ha : a.right = true) (hb : b.right = true) (h : (Sp.mulHi a.hi b.hi == 0#64) = true) (w : World) : Calls Try.prog 89 #[.int .u8 32, .agg #[.int .u64 (N a.lo), .int .u64 (N a.hi)], .agg #[.int .u64 (N b.lo), .int .u64 (N b.hi)]] w fun e w' => e = .returned (.agg #[.int .u64 (N (Sp.do_ (32) a b).lo), .int .u64 (N (Sp.do_ (32) a b).hi)]) ∧ Below w.heap.size w w' := by
  rw [Sp.do_mul1 ha hb h]
  go_enter Try.func89, Try.ntmps89
  go_wp2_with (first | (go_at_call 96; (with_reducible refine (rsboth_c' _ _ _ _ _).mono ?_); rintro e w1 ⟨rfl, hb1⟩; obtain ⟨hc1, hf1, hz1⟩ := bcell hb1; (try simp only [World.size_alloc, World.size_setCell, World.size_drew] at hc1 hf1 hz1)) | (go_at_call 55; (with_reducible refine (rsall_c _).mono ?_); rintro e w1 ⟨rfl, hb1⟩; obtain ⟨hc1, hf1, hz1⟩ := bcell hb1; (try simp only [World.size_alloc, World.size_setCell, World.size_drew] at hc1 hf1 hz1)) | (go_at_call 114; (with_reducible refine (rsfits_c _ _ _).mono ?_); rintro e w1 ⟨rfl, hb1⟩; obtain ⟨hc1, hf1, hz1⟩ := bcell hb1; (try simp only [World.size_alloc, World.size_setCell, World.size_drew] at hc1 hf1 hz1)))
  refine bodyPost_ret ?_ rfl ⟨rfl, (by repeat' (first | (with_reducible exact Below.refl _ _) | (with_reducible assumption) | (with_reducible refine Below.alloc ?_ ?_ _) | (with_reducible refine Below.setCell ?_ ?_ _) | (with_reducible refine Below.drew ?_) | (with_reducible refine below_dn ?_ _) | (with_reducible refine Below.trans ?_ (Below.mono (by assumption) ?_)) | go_size))⟩
  simp only [results, Try.results89]; simp [*, go_sem, ↓IntWalk.iteOmega]; try (first | rfl | exact ⟨rfl, rfl⟩)

theorem rsdo_mul2 (a b : Sp) (ha : a.right = true) (hb : b.right = true) (h : (Sp.mulHi a.hi b.hi == 0#64) = false) (w : World) : Calls Try.prog 89 #[.int .u8 32, .agg #[.int .u64 (N a.lo), .int .u64 (N a.hi)], .agg #[.int .u64 (N b.lo), .int .u64 (N b.hi)]] w fun e w' => e = .returned (.agg #[.int .u64 (N (Sp.do_ (32) a b).lo), .int .u64 (N (Sp.do_ (32) a b).hi)]) ∧ Below w.heap.size w w' := by
  rw [Sp.do_mul2 ha hb h]
  go_enter Try.func89, Try.ntmps89
  go_wp2_with (first | (go_at_call 96; (with_reducible refine (rsboth_c' _ _ _ _ _).mono ?_); rintro e w1 ⟨rfl, hb1⟩; obtain ⟨hc1, hf1, hz1⟩ := bcell hb1; (try simp only [World.size_alloc, World.size_setCell, World.size_drew] at hc1 hf1 hz1)) | (go_at_call 55; (with_reducible refine (rsall_c _).mono ?_); rintro e w1 ⟨rfl, hb1⟩; obtain ⟨hc1, hf1, hz1⟩ := bcell hb1; (try simp only [World.size_alloc, World.size_setCell, World.size_drew] at hc1 hf1 hz1)) | (go_at_call 114; (with_reducible refine (rsfits_c _ _ _).mono ?_); rintro e w1 ⟨rfl, hb1⟩; obtain ⟨hc1, hf1, hz1⟩ := bcell hb1; (try simp only [World.size_alloc, World.size_setCell, World.size_drew] at hc1 hf1 hz1)))
  refine bodyPost_ret ?_ rfl ⟨rfl, (by repeat' (first | (with_reducible exact Below.refl _ _) | (with_reducible assumption) | (with_reducible refine Below.alloc ?_ ?_ _) | (with_reducible refine Below.setCell ?_ ?_ _) | (with_reducible refine Below.drew ?_) | (with_reducible refine below_dn ?_ _) | (with_reducible refine Below.trans ?_ (Below.mono (by assumption) ?_)) | go_size))⟩
  simp only [results, Try.results89]; simp [*, go_sem, ↓IntWalk.iteOmega]; try (first | rfl | exact ⟨rfl, rfl⟩)

theorem rsdo_sub1 (a b : Sp) (ha : a.right = true) (hb : b.right = true) (h : decide (b.hi ≤ a.lo) = true) (w : World) : Calls Try.prog 89 #[.int .u8 16, .agg #[.int .u64 (N a.lo), .int .u64 (N a.hi)], .agg #[.int .u64 (N b.lo), .int .u64 (N b.hi)]] w fun e w' => e = .returned (.agg #[.int .u64 (N (Sp.do_ (16) a b).lo), .int .u64 (N (Sp.do_ (16) a b).hi)]) ∧ Below w.heap.size w w' := by
  rw [Sp.do_sub1 ha hb h]
  go_enter Try.func89, Try.ntmps89
  go_wp2_with (first | (go_at_call 96; (with_reducible refine (rsboth_c' _ _ _ _ _).mono ?_); rintro e w1 ⟨rfl, hb1⟩; obtain ⟨hc1, hf1, hz1⟩ := bcell hb1; (try simp only [World.size_alloc, World.size_setCell, World.size_drew] at hc1 hf1 hz1)) | (go_at_call 55; (with_reducible refine (rsall_c _).mono ?_); rintro e w1 ⟨rfl, hb1⟩; obtain ⟨hc1, hf1, hz1⟩ := bcell hb1; (try simp only [World.size_alloc, World.size_setCell, World.size_drew] at hc1 hf1 hz1)))
  refine bodyPost_ret ?_ rfl ⟨rfl, (by repeat' (first | (with_reducible exact Below.refl _ _) | (with_reducible assumption) | (with_reducible refine Below.alloc ?_ ?_ _) | (with_reducible refine Below.setCell ?_ ?_ _) | (with_reducible refine Below.drew ?_) | (with_reducible refine below_dn ?_ _) | (with_reducible refine Below.trans ?_ (Below.mono (by assumption) ?_)) | go_size))⟩
  simp only [results, Try.results89]; simp [*, go_sem, ↓IntWalk.iteOmega]; try (first | rfl | exact ⟨rfl, rfl⟩)

theorem rsdo_sub2 (a b : Sp) (ha : a.right = true) (hb : b.right = true) (h : decide (b.hi ≤ a.lo) = false) (w : World) : Calls Try.prog 89 #[.int .u8 16, .agg #[.int .u64 (N a.lo), .int .u64 (N a.hi)], .agg #[.int .u64 (N b.lo), .int .u64 (N b.hi)]] w fun e w' => e = .returned (.agg #[.int .u64 (N (Sp.do_ (16) a b).lo), .int .u64 (N (Sp.do_ (16) a b).hi)]) ∧ Below w.heap.size w w' := by
  rw [Sp.do_sub2 ha hb h]
  go_enter Try.func89, Try.ntmps89
  go_wp2_with (first | (go_at_call 96; (with_reducible refine (rsboth_c' _ _ _ _ _).mono ?_); rintro e w1 ⟨rfl, hb1⟩; obtain ⟨hc1, hf1, hz1⟩ := bcell hb1; (try simp only [World.size_alloc, World.size_setCell, World.size_drew] at hc1 hf1 hz1)) | (go_at_call 55; (with_reducible refine (rsall_c _).mono ?_); rintro e w1 ⟨rfl, hb1⟩; obtain ⟨hc1, hf1, hz1⟩ := bcell hb1; (try simp only [World.size_alloc, World.size_setCell, World.size_drew] at hc1 hf1 hz1)))
  refine bodyPost_ret ?_ rfl ⟨rfl, (by repeat' (first | (with_reducible exact Below.refl _ _) | (with_reducible assumption) | (with_reducible refine Below.alloc ?_ ?_ _) | (with_reducible refine Below.setCell ?_ ?_ _) | (with_reducible refine Below.drew ?_) | (with_reducible refine below_dn ?_ _) | (with_reducible refine Below.trans ?_ (Below.mono (by assumption) ?_)) | go_size))⟩
  simp only [results, Try.results89]; simp [*, go_sem, ↓IntWalk.iteOmega]; try (first | rfl | exact ⟨rfl, rfl⟩)

theorem rsdo_and (a b : Sp) (ha : a.right = true) (hb : b.right = true)  (w : World) : Calls Try.prog 89 #[.int .u8 80, .agg #[.int .u64 (N a.lo), .int .u64 (N a.hi)], .agg #[.int .u64 (N b.lo), .int .u64 (N b.hi)]] w fun e w' => e = .returned (.agg #[.int .u64 (N (Sp.do_ (80) a b).lo), .int .u64 (N (Sp.do_ (80) a b).hi)]) ∧ Below w.heap.size w w' := by
  rw [Sp.do_and ha hb]
  go_enter Try.func89, Try.ntmps89
  go_wp2_with (first | (go_at_call 96; (with_reducible refine (rsboth_c' _ _ _ _ _).mono ?_); rintro e w1 ⟨rfl, hb1⟩; obtain ⟨hc1, hf1, hz1⟩ := bcell hb1; (try simp only [World.size_alloc, World.size_setCell, World.size_drew] at hc1 hf1 hz1)) | (go_at_call 55; (with_reducible refine (rsall_c _).mono ?_); rintro e w1 ⟨rfl, hb1⟩; obtain ⟨hc1, hf1, hz1⟩ := bcell hb1; (try simp only [World.size_alloc, World.size_setCell, World.size_drew] at hc1 hf1 hz1)))
  refine bodyPost_ret ?_ rfl ⟨rfl, (by repeat' (first | (with_reducible exact Below.refl _ _) | (with_reducible assumption) | (with_reducible refine Below.alloc ?_ ?_ _) | (with_reducible refine Below.setCell ?_ ?_ _) | (with_reducible refine Below.drew ?_) | (with_reducible refine below_dn ?_ _) | (with_reducible refine Below.trans ?_ (Below.mono (by assumption) ?_)) | go_size))⟩
  simp only [results, Try.results89]; simp [*, go_sem, ↓IntWalk.iteOmega]; try (first | rfl | exact ⟨rfl, rfl⟩)

theorem rsdo_div1 (a b : Sp) (ha : a.right = true) (hb : b.right = true) (h : decide (0#64 < b.lo) = true) (w : World) : Calls Try.prog 89 #[.int .u8 48, .agg #[.int .u64 (N a.lo), .int .u64 (N a.hi)], .agg #[.int .u64 (N b.lo), .int .u64 (N b.hi)]] w fun e w' => e = .returned (.agg #[.int .u64 (N (Sp.do_ (48) a b).lo), .int .u64 (N (Sp.do_ (48) a b).hi)]) ∧ Below w.heap.size w w' := by
  rw [Sp.do_div1 ha hb h]
  obtain ⟨d1, d2⟩ := Sp.div_pos hb h
  go_enter Try.func89, Try.ntmps89
  go_wp2_with (first | (go_at_call 96; (with_reducible refine (rsboth_c' _ _ _ _ _).mono ?_); rintro e w1 ⟨rfl, hb1⟩; obtain ⟨hc1, hf1, hz1⟩ := bcell hb1; (try simp only [World.size_alloc, World.size_setCell, World.size_drew] at hc1 hf1 hz1)) | (go_at_call 55; (with_reducible refine (rsall_c _).mono ?_); rintro e w1 ⟨rfl, hb1⟩; obtain ⟨hc1, hf1, hz1⟩ := bcell hb1; (try simp only [World.size_alloc, World.size_setCell, World.size_drew] at hc1 hf1 hz1)))
  go_region
  go_wp2
  refine bodyPost_ret ?_ rfl ⟨rfl, (by repeat' (first | (with_reducible exact Below.refl _ _) | (with_reducible assumption) | (with_reducible refine Below.alloc ?_ ?_ _) | (with_reducible refine Below.setCell ?_ ?_ _) | (with_reducible refine Below.drew ?_) | (with_reducible refine below_dn ?_ _) | (with_reducible refine Below.trans ?_ (Below.mono (by assumption) ?_)) | go_size))⟩
  simp only [results, Try.results89]; simp [*, go_sem, ↓IntWalk.iteOmega]; try (first | rfl | exact ⟨rfl, rfl⟩)

theorem rsdo_div2 (a b : Sp) (ha : a.right = true) (hb : b.right = true) (h : decide (0#64 < b.lo) = false) (w : World) : Calls Try.prog 89 #[.int .u8 48, .agg #[.int .u64 (N a.lo), .int .u64 (N a.hi)], .agg #[.int .u64 (N b.lo), .int .u64 (N b.hi)]] w fun e w' => e = .returned (.agg #[.int .u64 (N (Sp.do_ (48) a b).lo), .int .u64 (N (Sp.do_ (48) a b).hi)]) ∧ Below w.heap.size w w' := by
  rw [Sp.do_div2 ha hb h]
  go_enter Try.func89, Try.ntmps89
  go_wp2_with (first | (go_at_call 96; (with_reducible refine (rsboth_c' _ _ _ _ _).mono ?_); rintro e w1 ⟨rfl, hb1⟩; obtain ⟨hc1, hf1, hz1⟩ := bcell hb1; (try simp only [World.size_alloc, World.size_setCell, World.size_drew] at hc1 hf1 hz1)) | (go_at_call 55; (with_reducible refine (rsall_c _).mono ?_); rintro e w1 ⟨rfl, hb1⟩; obtain ⟨hc1, hf1, hz1⟩ := bcell hb1; (try simp only [World.size_alloc, World.size_setCell, World.size_drew] at hc1 hf1 hz1)))
  refine bodyPost_ret ?_ rfl ⟨rfl, (by repeat' (first | (with_reducible exact Below.refl _ _) | (with_reducible assumption) | (with_reducible refine Below.alloc ?_ ?_ _) | (with_reducible refine Below.setCell ?_ ?_ _) | (with_reducible refine Below.drew ?_) | (with_reducible refine below_dn ?_ _) | (with_reducible refine Below.trans ?_ (Below.mono (by assumption) ?_)) | go_size))⟩
  simp only [results, Try.results89]; simp [*, go_sem, ↓IntWalk.iteOmega]; try (first | rfl | exact ⟨rfl, rfl⟩)

theorem rsdo_mod1 (a b : Sp) (ha : a.right = true) (hb : b.right = true) (h : decide (0#64 < b.lo) = true) (w : World) : Calls Try.prog 89 #[.int .u8 144, .agg #[.int .u64 (N a.lo), .int .u64 (N a.hi)], .agg #[.int .u64 (N b.lo), .int .u64 (N b.hi)]] w fun e w' => e = .returned (.agg #[.int .u64 (N (Sp.do_ (144) a b).lo), .int .u64 (N (Sp.do_ (144) a b).hi)]) ∧ Below w.heap.size w w' := by
  rw [Sp.do_mod1 ha hb h]
  go_enter Try.func89, Try.ntmps89
  go_wp2_with (first | (go_at_call 96; (with_reducible refine (rsboth_c' _ _ _ _ _).mono ?_); rintro e w1 ⟨rfl, hb1⟩; obtain ⟨hc1, hf1, hz1⟩ := bcell hb1; (try simp only [World.size_alloc, World.size_setCell, World.size_drew] at hc1 hf1 hz1)) | (go_at_call 55; (with_reducible refine (rsall_c _).mono ?_); rintro e w1 ⟨rfl, hb1⟩; obtain ⟨hc1, hf1, hz1⟩ := bcell hb1; (try simp only [World.size_alloc, World.size_setCell, World.size_drew] at hc1 hf1 hz1)))
  refine bodyPost_ret ?_ rfl ⟨rfl, (by repeat' (first | (with_reducible exact Below.refl _ _) | (with_reducible assumption) | (with_reducible refine Below.alloc ?_ ?_ _) | (with_reducible refine Below.setCell ?_ ?_ _) | (with_reducible refine Below.drew ?_) | (with_reducible refine below_dn ?_ _) | (with_reducible refine Below.trans ?_ (Below.mono (by assumption) ?_)) | go_size))⟩
  simp only [results, Try.results89]; simp [*, go_sem, ↓IntWalk.iteOmega]; try (first | rfl | exact ⟨rfl, rfl⟩)

theorem rsdo_mod2 (a b : Sp) (ha : a.right = true) (hb : b.right = true) (h : decide (0#64 < b.lo) = false) (w : World) : Calls Try.prog 89 #[.int .u8 144, .agg #[.int .u64 (N a.lo), .int .u64 (N a.hi)], .agg #[.int .u64 (N b.lo), .int .u64 (N b.hi)]] w fun e w' => e = .returned (.agg #[.int .u64 (N (Sp.do_ (144) a b).lo), .int .u64 (N (Sp.do_ (144) a b).hi)]) ∧ Below w.heap.size w w' := by
  rw [Sp.do_mod2 ha hb h]
  go_enter Try.func89, Try.ntmps89
  go_wp2_with (first | (go_at_call 96; (with_reducible refine (rsboth_c' _ _ _ _ _).mono ?_); rintro e w1 ⟨rfl, hb1⟩; obtain ⟨hc1, hf1, hz1⟩ := bcell hb1; (try simp only [World.size_alloc, World.size_setCell, World.size_drew] at hc1 hf1 hz1)) | (go_at_call 55; (with_reducible refine (rsall_c _).mono ?_); rintro e w1 ⟨rfl, hb1⟩; obtain ⟨hc1, hf1, hz1⟩ := bcell hb1; (try simp only [World.size_alloc, World.size_setCell, World.size_drew] at hc1 hf1 hz1)))
  refine bodyPost_ret ?_ rfl ⟨rfl, (by repeat' (first | (with_reducible exact Below.refl _ _) | (with_reducible assumption) | (with_reducible refine Below.alloc ?_ ?_ _) | (with_reducible refine Below.setCell ?_ ?_ _) | (with_reducible refine Below.drew ?_) | (with_reducible refine below_dn ?_ _) | (with_reducible refine Below.trans ?_ (Below.mono (by assumption) ?_)) | go_size))⟩
  simp only [results, Try.results89]; simp [*, go_sem, ↓IntWalk.iteOmega]; try (first | rfl | exact ⟨rfl, rfl⟩)

theorem rsdo_rsh1 (a b : Sp) (ha : a.right = true) (hb : b.right = true) (h : decide (b.hi < 64#64) = true) (w : World) : Calls Try.prog 89 #[.int .u8 112, .agg #[.int .u64 (N a.lo), .int .u64 (N a.hi)], .agg #[.int .u64 (N b.lo), .int .u64 (N b.hi)]] w fun e w' => e = .returned (.agg #[.int .u64 (N (Sp.do_ (112) a b).lo), .int .u64 (N (Sp.do_ (112) a b).hi)]) ∧ Below w.heap.size w w' := by
  rw [Sp.do_rsh1 ha hb h]
  go_enter Try.func89, Try.ntmps89
  go_wp2_with (first | (go_at_call 96; (with_reducible refine (rsboth_c' _ _ _ _ _).mono ?_); rintro e w1 ⟨rfl, hb1⟩; obtain ⟨hc1, hf1, hz1⟩ := bcell hb1; (try simp only [World.size_alloc, World.size_setCell, World.size_drew] at hc1 hf1 hz1)) | (go_at_call 55; (with_reducible refine (rsall_c _).mono ?_); rintro e w1 ⟨rfl, hb1⟩; obtain ⟨hc1, hf1, hz1⟩ := bcell hb1; (try simp only [World.size_alloc, World.size_setCell, World.size_drew] at hc1 hf1 hz1)))
  refine bodyPost_ret ?_ rfl ⟨rfl, (by repeat' (first | (with_reducible exact Below.refl _ _) | (with_reducible assumption) | (with_reducible refine Below.alloc ?_ ?_ _) | (with_reducible refine Below.setCell ?_ ?_ _) | (with_reducible refine Below.drew ?_) | (with_reducible refine below_dn ?_ _) | (with_reducible refine Below.trans ?_ (Below.mono (by assumption) ?_)) | go_size))⟩
  simp only [results, Try.results89]; simp [*, go_sem, ↓IntWalk.iteOmega]; try (first | rfl | exact ⟨rfl, rfl⟩)

theorem rsdo_rsh2 (a b : Sp) (ha : a.right = true) (hb : b.right = true) (h : decide (b.hi < 64#64) = false) (w : World) : Calls Try.prog 89 #[.int .u8 112, .agg #[.int .u64 (N a.lo), .int .u64 (N a.hi)], .agg #[.int .u64 (N b.lo), .int .u64 (N b.hi)]] w fun e w' => e = .returned (.agg #[.int .u64 (N (Sp.do_ (112) a b).lo), .int .u64 (N (Sp.do_ (112) a b).hi)]) ∧ Below w.heap.size w w' := by
  rw [Sp.do_rsh2 ha hb h]
  go_enter Try.func89, Try.ntmps89
  go_wp2_with (first | (go_at_call 96; (with_reducible refine (rsboth_c' _ _ _ _ _).mono ?_); rintro e w1 ⟨rfl, hb1⟩; obtain ⟨hc1, hf1, hz1⟩ := bcell hb1; (try simp only [World.size_alloc, World.size_setCell, World.size_drew] at hc1 hf1 hz1)) | (go_at_call 55; (with_reducible refine (rsall_c _).mono ?_); rintro e w1 ⟨rfl, hb1⟩; obtain ⟨hc1, hf1, hz1⟩ := bcell hb1; (try simp only [World.size_alloc, World.size_setCell, World.size_drew] at hc1 hf1 hz1)))
  refine bodyPost_ret ?_ rfl ⟨rfl, (by repeat' (first | (with_reducible exact Below.refl _ _) | (with_reducible assumption) | (with_reducible refine Below.alloc ?_ ?_ _) | (with_reducible refine Below.setCell ?_ ?_ _) | (with_reducible refine Below.drew ?_) | (with_reducible refine below_dn ?_ _) | (with_reducible refine Below.trans ?_ (Below.mono (by assumption) ?_)) | go_size))⟩
  simp only [results, Try.results89]; simp [*, go_sem, ↓IntWalk.iteOmega]; try (first | rfl | exact ⟨rfl, rfl⟩)

theorem rsdo_else (op : Int) (a b : Sp) (ha : a.right = true) (hb : b.right = true) (n0 : ¬ op = 0) (n32 : ¬ op = 32) (n16 : ¬ op = 16) (n80 : ¬ op = 80) (n48 : ¬ op = 48) (n144 : ¬ op = 144) (n112 : ¬ op = 112) (w : World) : Calls Try.prog 89 #[.int .u8 op, .agg #[.int .u64 (N a.lo), .int .u64 (N a.hi)], .agg #[.int .u64 (N b.lo), .int .u64 (N b.hi)]] w fun e w' => e = .returned (.agg #[.int .u64 (N (Sp.do_ (op) a b).lo), .int .u64 (N (Sp.do_ (op) a b).hi)]) ∧ Below w.heap.size w w' := by
  rw [Sp.do_else ha hb op n0 n32 n16 n80 n48 n144 n112]
  go_enter Try.func89, Try.ntmps89
  go_wp2_with (first | (go_at_call 96; (with_reducible refine (rsboth_c' _ _ _ _ _).mono ?_); rintro e w1 ⟨rfl, hb1⟩; obtain ⟨hc1, hf1, hz1⟩ := bcell hb1; (try simp only [World.size_alloc, World.size_setCell, World.size_drew] at hc1 hf1 hz1)) | (go_at_call 55; (with_reducible refine (rsall_c _).mono ?_); rintro e w1 ⟨rfl, hb1⟩; obtain ⟨hc1, hf1, hz1⟩ := bcell hb1; (try simp only [World.size_alloc, World.size_setCell, World.size_drew] at hc1 hf1 hz1)))
  refine bodyPost_ret ?_ rfl ⟨rfl, (by repeat' (first | (with_reducible exact Below.refl _ _) | (with_reducible assumption) | (with_reducible refine Below.alloc ?_ ?_ _) | (with_reducible refine Below.setCell ?_ ?_ _) | (with_reducible refine Below.drew ?_) | (with_reducible refine below_dn ?_ _) | (with_reducible refine Below.trans ?_ (Below.mono (by assumption) ?_)) | go_size))⟩
  simp only [results, Try.results89]; simp [*, go_sem, ↓IntWalk.iteOmega]; try (first | rfl | exact ⟨rfl, rfl⟩)

theorem rsdo_c (op : Int) (a b : Sp) (w : World) : Calls Try.prog 89 #[.int .u8 op, .agg #[.int .u64 (N a.lo), .int .u64 (N a.hi)], .agg #[.int .u64 (N b.lo), .int .u64 (N b.hi)]] w fun e w' => e = .returned (.agg #[.int .u64 (N (Sp.do_ (op) a b).lo), .int .u64 (N (Sp.do_ (op) a b).hi)]) ∧ Below w.heap.size w w' := by
  cases ha : a.right
  · exact rsdo_no1 op a b ha w
  cases hb : b.right
  · exact rsdo_no2 op a b ha hb w
  by_cases n0 : op = 0
  · subst n0
    cases h : decide (a.hi ≤ 18446744073709551615#64 - b.hi)
    · exact rsdo_add2 a b ha hb h w
    · exact rsdo_add1 a b ha hb h w
  by_cases n32 : op = 32
  · subst n32
    cases h : (Sp.mulHi a.hi b.hi == 0#64)
    · exact rsdo_mul2 a b ha hb h w
    · exact rsdo_mul1 a b ha hb h w
  by_cases n16 : op = 16
  · subst n16
    cases h : decide (b.hi ≤ a.lo)
    · exact rsdo_sub2 a b ha hb h w
    · exact rsdo_sub1 a b ha hb h w
  by_cases n48 : op = 48
  · subst n48
    cases h : decide (0#64 < b.lo)
    · exact rsdo_div2 a b ha hb h w
    · exact rsdo_div1 a b ha hb h w
  by_cases n144 : op = 144
  · subst n144
    cases h : decide (0#64 < b.lo)
    · exact rsdo_mod2 a b ha hb h w
    · exact rsdo_mod1 a b ha hb h w
  by_cases n112 : op = 112
  · subst n112
    cases h : decide (b.hi < 64#64)
    · exact rsdo_rsh2 a b ha hb h w
    · exact rsdo_rsh1 a b ha hb h w
  by_cases n80 : op = 80
  · subst n80; exact rsdo_and a b ha hb w
  exact rsdo_else op a b ha hb n0 n32 n16 n80 n48 n144 n112 w

theorem rsdo_c' (x0 : Int) (x1 y1 : BitVec 64) (x2 y2 : BitVec 64) (w : World) : Calls Try.prog 89 #[.int .u8 x0, .agg #[.int .u64 (N x1), .int .u64 (N y1)], .agg #[.int .u64 (N x2), .int .u64 (N y2)]] w fun e w' => e = .returned (.agg #[.int .u64 (N (Sp.do_ x0 (⟨x1, y1⟩ : Sp) (⟨x2, y2⟩ : Sp)).lo), .int .u64 (N (Sp.do_ x0 (⟨x1, y1⟩ : Sp) (⟨x2, y2⟩ : Sp)).hi)]) ∧ Below w.heap.size w w' := by
  exact rsdo_c x0 (⟨x1, y1⟩ : Sp) (⟨x2, y2⟩ : Sp) w

end Hk
