/- The reference of arithmetic: parts. No condition but that in each statement. -/
import Derived.Test.YtkpmhnfgldchaaaProg
import Derived.Test.YtkpmhnfgldchaaaWd
import Derived.Test.YtkpmhnfgldchaaaAluUp
import Derived.Test.YtkpmhnfgldchaaaRc1
namespace Hk
open Go Go.RowKit Go.Proofs
set_option linter.unusedSimpArgs false
set_option linter.unusedVariables false
set_option maxRecDepth 100000
theorem parts64_u (x y : BitVec 64) (h : (y == 0#64) = false) (w : World) : Calls Try.prog 29 #[.int .u64 (N x), .int .u64 (N y), .int .i64 64, .bool false] w fun e w' => e = .returned (.tuple #[.int .u64 (N (x / y)), .int .u64 (N (x % y))]) ∧ Below w.heap.size w w' := by
  have hm := Alu.mag_ne h
  have hn : y ≠ 0#64 := by simpa using h
  go_enter Try.func29, Try.ntmps29
  go_wp2_with (first | (go_at_call 36; (with_reducible refine (size64_c _ _).mono ?_); rintro e w1 ⟨rfl, rfl⟩) | (go_at_call 36; (with_reducible refine (size32_c _ _).mono ?_); rintro e w1 ⟨rfl, rfl⟩) | (go_at_call 30; (with_reducible refine (neg64_c _ _).mono ?_); rintro e w1 ⟨rfl, rfl⟩) | (go_at_call 30; (with_reducible refine (neg32_c _ _).mono ?_); rintro e w1 ⟨rfl, rfl⟩) | (go_at_call 27; (with_reducible refine (cut64_c _ _).mono ?_); rintro e w1 ⟨rfl, rfl⟩) | (go_at_call 27; (with_reducible refine (cut32_c _ _).mono ?_); rintro e w1 ⟨rfl, rfl⟩))
  go_region
  go_wp2
  go_ret2
  exact ⟨by simp [Alu.up_div, Alu.up_mod], (by repeat' (first | (with_reducible exact Below.refl _ _) | (with_reducible assumption) | (with_reducible refine Below.alloc ?_ ?_ _) | (with_reducible refine Below.setCell ?_ ?_ _) | (with_reducible refine Below.drew ?_) | (with_reducible refine below_dn ?_ _) | (with_reducible refine Below.trans ?_ (Below.mono (by assumption) ?_)) | go_size))⟩

theorem parts64_s (x y : BitVec 64) (h : (y == 0#64) = false) (w : World) : Calls Try.prog 29 #[.int .u64 (N x), .int .u64 (N y), .int .i64 64, .bool true] w fun e w' => e = .returned (.tuple #[.int .u64 (N (Alu.quoS x y)), .int .u64 (N (Alu.remS x y))]) ∧ Below w.heap.size w w' := by
  have hm := Alu.mag_ne h
  have hn : y ≠ 0#64 := by simpa using h
  cases hx : x.msb <;> cases hy : y.msb
  all_goals
    go_enter Try.func29, Try.ntmps29
    go_wp2_with (first | (go_at_call 36; (with_reducible refine (size64_c _ _).mono ?_); rintro e w1 ⟨rfl, rfl⟩) | (go_at_call 36; (with_reducible refine (size32_c _ _).mono ?_); rintro e w1 ⟨rfl, rfl⟩) | (go_at_call 30; (with_reducible refine (neg64_c _ _).mono ?_); rintro e w1 ⟨rfl, rfl⟩) | (go_at_call 30; (with_reducible refine (neg32_c _ _).mono ?_); rintro e w1 ⟨rfl, rfl⟩) | (go_at_call 27; (with_reducible refine (cut64_c _ _).mono ?_); rintro e w1 ⟨rfl, rfl⟩) | (go_at_call 27; (with_reducible refine (cut32_c _ _).mono ?_); rintro e w1 ⟨rfl, rfl⟩))
    go_ret2
    exact ⟨by simp [Alu.quoS, Alu.remS, hx, hy, Alu.up_div, Alu.up_mod, Alu.dn_neg', Alu.dn_neg], (by repeat' (first | (with_reducible exact Below.refl _ _) | (with_reducible assumption) | (with_reducible refine Below.alloc ?_ ?_ _) | (with_reducible refine Below.setCell ?_ ?_ _) | (with_reducible refine Below.drew ?_) | (with_reducible refine below_dn ?_ _) | (with_reducible refine Below.trans ?_ (Below.mono (by assumption) ?_)) | go_size))⟩

theorem parts64_zt (x y : BitVec 64) (h : (y == 0#64) = true) (w : World) : Calls Try.prog 29 #[.int .u64 (N x), .int .u64 (N y), .int .i64 64, .bool true] w fun e w' => e = .returned (.tuple #[.int .u64 (N 0#64), .int .u64 (N x)]) ∧ Below w.heap.size w w' := by
  have hy : y = 0#64 := by simpa using h
  subst hy
  go_enter Try.func29, Try.ntmps29
  go_wp2_with (first | (go_at_call 36; (with_reducible refine (size64_c _ _).mono ?_); rintro e w1 ⟨rfl, rfl⟩) | (go_at_call 36; (with_reducible refine (size32_c _ _).mono ?_); rintro e w1 ⟨rfl, rfl⟩) | (go_at_call 30; (with_reducible refine (neg64_c _ _).mono ?_); rintro e w1 ⟨rfl, rfl⟩) | (go_at_call 30; (with_reducible refine (neg32_c _ _).mono ?_); rintro e w1 ⟨rfl, rfl⟩) | (go_at_call 27; (with_reducible refine (cut64_c _ _).mono ?_); rintro e w1 ⟨rfl, rfl⟩) | (go_at_call 27; (with_reducible refine (cut32_c _ _).mono ?_); rintro e w1 ⟨rfl, rfl⟩))
  go_ret2
  exact ⟨rfl, (by repeat' (first | (with_reducible exact Below.refl _ _) | (with_reducible assumption) | (with_reducible refine Below.alloc ?_ ?_ _) | (with_reducible refine Below.setCell ?_ ?_ _) | (with_reducible refine Below.drew ?_) | (with_reducible refine below_dn ?_ _) | (with_reducible refine Below.trans ?_ (Below.mono (by assumption) ?_)) | go_size))⟩

theorem parts64_zf (x y : BitVec 64) (h : (y == 0#64) = true) (w : World) : Calls Try.prog 29 #[.int .u64 (N x), .int .u64 (N y), .int .i64 64, .bool false] w fun e w' => e = .returned (.tuple #[.int .u64 (N 0#64), .int .u64 (N x)]) ∧ Below w.heap.size w w' := by
  have hy : y = 0#64 := by simpa using h
  subst hy
  go_enter Try.func29, Try.ntmps29
  go_wp2_with (first | (go_at_call 36; (with_reducible refine (size64_c _ _).mono ?_); rintro e w1 ⟨rfl, rfl⟩) | (go_at_call 36; (with_reducible refine (size32_c _ _).mono ?_); rintro e w1 ⟨rfl, rfl⟩) | (go_at_call 30; (with_reducible refine (neg64_c _ _).mono ?_); rintro e w1 ⟨rfl, rfl⟩) | (go_at_call 30; (with_reducible refine (neg32_c _ _).mono ?_); rintro e w1 ⟨rfl, rfl⟩) | (go_at_call 27; (with_reducible refine (cut64_c _ _).mono ?_); rintro e w1 ⟨rfl, rfl⟩) | (go_at_call 27; (with_reducible refine (cut32_c _ _).mono ?_); rintro e w1 ⟨rfl, rfl⟩))
  go_ret2
  exact ⟨rfl, (by repeat' (first | (with_reducible exact Below.refl _ _) | (with_reducible assumption) | (with_reducible refine Below.alloc ?_ ?_ _) | (with_reducible refine Below.setCell ?_ ?_ _) | (with_reducible refine Below.drew ?_) | (with_reducible refine below_dn ?_ _) | (with_reducible refine Below.trans ?_ (Below.mono (by assumption) ?_)) | go_size))⟩

theorem parts64_c (x y : BitVec 64) (sg : Bool) (w : World) : Calls Try.prog 29 #[.int .u64 (N x), .int .u64 (N y), .int .i64 64, .bool sg] w fun e w' => e = .returned (.tuple #[.int .u64 (N (if sg then x.sdiv y else x / y)), .int .u64 (N (if sg then x.srem y else x % y))]) ∧ Below w.heap.size w w' := by
  obtain ⟨e1, e2, e3, e4⟩ := Alu.div_zero 64 x
  cases h : (y == 0#64)
  · cases sg
    · exact parts64_u x y h w
    · have := parts64_s x y h w
      rw [Alu.quoS_eq, Alu.remS_eq] at this
      exact this
  · have hy : y = 0#64 := by simpa using h
    cases sg
    · have := parts64_zf x y h w
      subst hy
      rw [if_neg (by decide), if_neg (by decide), e1, e2]
      exact this
    · have := parts64_zt x y h w
      subst hy
      rw [if_pos rfl, if_pos rfl, e3, e4]
      exact this

theorem parts32_u (x y : BitVec 32) (h : (y == 0#32) = false) (w : World) : Calls Try.prog 29 #[.int .u64 (N (Alu.up x)), .int .u64 (N (Alu.up y)), .int .i64 32, .bool false] w fun e w' => e = .returned (.tuple #[.int .u64 (N (Alu.up (x / y))), .int .u64 (N (Alu.up (x % y)))]) ∧ Below w.heap.size w w' := by
  have hm := Alu.mag_ne h
  have hn : y ≠ 0#32 := by simpa using h
  have hm' := Alu.up_ne hm
  have hn' := Alu.up_ne hn
  have h' : (Alu.up y == 0#64) = false := by rw [Alu.up_zero_beq, h]
  go_enter Try.func29, Try.ntmps29
  go_wp2_with (first | (go_at_call 36; (with_reducible refine (size64_c _ _).mono ?_); rintro e w1 ⟨rfl, rfl⟩) | (go_at_call 36; (with_reducible refine (size32_c _ _).mono ?_); rintro e w1 ⟨rfl, rfl⟩) | (go_at_call 30; (with_reducible refine (neg64_c _ _).mono ?_); rintro e w1 ⟨rfl, rfl⟩) | (go_at_call 30; (with_reducible refine (neg32_c _ _).mono ?_); rintro e w1 ⟨rfl, rfl⟩) | (go_at_call 27; (with_reducible refine (cut64_c _ _).mono ?_); rintro e w1 ⟨rfl, rfl⟩) | (go_at_call 27; (with_reducible refine (cut32_c _ _).mono ?_); rintro e w1 ⟨rfl, rfl⟩))
  go_region
  go_wp2
  go_ret2
  exact ⟨by simp [Alu.up_div, Alu.up_mod], (by repeat' (first | (with_reducible exact Below.refl _ _) | (with_reducible assumption) | (with_reducible refine Below.alloc ?_ ?_ _) | (with_reducible refine Below.setCell ?_ ?_ _) | (with_reducible refine Below.drew ?_) | (with_reducible refine below_dn ?_ _) | (with_reducible refine Below.trans ?_ (Below.mono (by assumption) ?_)) | go_size))⟩

theorem parts32_s (x y : BitVec 32) (h : (y == 0#32) = false) (w : World) : Calls Try.prog 29 #[.int .u64 (N (Alu.up x)), .int .u64 (N (Alu.up y)), .int .i64 32, .bool true] w fun e w' => e = .returned (.tuple #[.int .u64 (N (Alu.up (Alu.quoS x y))), .int .u64 (N (Alu.up (Alu.remS x y)))]) ∧ Below w.heap.size w w' := by
  have hm := Alu.mag_ne h
  have hn : y ≠ 0#32 := by simpa using h
  have hm' := Alu.up_ne hm
  have hn' := Alu.up_ne hn
  have h' : (Alu.up y == 0#64) = false := by rw [Alu.up_zero_beq, h]
  cases hx : x.msb <;> cases hy : y.msb
  all_goals
    go_enter Try.func29, Try.ntmps29
    go_wp2_with (first | (go_at_call 36; (with_reducible refine (size64_c _ _).mono ?_); rintro e w1 ⟨rfl, rfl⟩) | (go_at_call 36; (with_reducible refine (size32_c _ _).mono ?_); rintro e w1 ⟨rfl, rfl⟩) | (go_at_call 30; (with_reducible refine (neg64_c _ _).mono ?_); rintro e w1 ⟨rfl, rfl⟩) | (go_at_call 30; (with_reducible refine (neg32_c _ _).mono ?_); rintro e w1 ⟨rfl, rfl⟩) | (go_at_call 27; (with_reducible refine (cut64_c _ _).mono ?_); rintro e w1 ⟨rfl, rfl⟩) | (go_at_call 27; (with_reducible refine (cut32_c _ _).mono ?_); rintro e w1 ⟨rfl, rfl⟩))
    go_ret2
    exact ⟨by simp [Alu.quoS, Alu.remS, hx, hy, Alu.up_div, Alu.up_mod, Alu.dn_neg', Alu.dn_neg], (by repeat' (first | (with_reducible exact Below.refl _ _) | (with_reducible assumption) | (with_reducible refine Below.alloc ?_ ?_ _) | (with_reducible refine Below.setCell ?_ ?_ _) | (with_reducible refine Below.drew ?_) | (with_reducible refine below_dn ?_ _) | (with_reducible refine Below.trans ?_ (Below.mono (by assumption) ?_)) | go_size))⟩

theorem parts32_zt (x y : BitVec 32) (h : (y == 0#32) = true) (w : World) : Calls Try.prog 29 #[.int .u64 (N (Alu.up x)), .int .u64 (N (Alu.up y)), .int .i64 32, .bool true] w fun e w' => e = .returned (.tuple #[.int .u64 (N (Alu.up 0#32)), .int .u64 (N (Alu.up x))]) ∧ Below w.heap.size w w' := by
  have hy : y = 0#32 := by simpa using h
  subst hy
  rw [Alu.up_zero]
  go_enter Try.func29, Try.ntmps29
  go_wp2_with (first | (go_at_call 36; (with_reducible refine (size64_c _ _).mono ?_); rintro e w1 ⟨rfl, rfl⟩) | (go_at_call 36; (with_reducible refine (size32_c _ _).mono ?_); rintro e w1 ⟨rfl, rfl⟩) | (go_at_call 30; (with_reducible refine (neg64_c _ _).mono ?_); rintro e w1 ⟨rfl, rfl⟩) | (go_at_call 30; (with_reducible refine (neg32_c _ _).mono ?_); rintro e w1 ⟨rfl, rfl⟩) | (go_at_call 27; (with_reducible refine (cut64_c _ _).mono ?_); rintro e w1 ⟨rfl, rfl⟩) | (go_at_call 27; (with_reducible refine (cut32_c _ _).mono ?_); rintro e w1 ⟨rfl, rfl⟩))
  go_ret2
  exact ⟨rfl, (by repeat' (first | (with_reducible exact Below.refl _ _) | (with_reducible assumption) | (with_reducible refine Below.alloc ?_ ?_ _) | (with_reducible refine Below.setCell ?_ ?_ _) | (with_reducible refine Below.drew ?_) | (with_reducible refine below_dn ?_ _) | (with_reducible refine Below.trans ?_ (Below.mono (by assumption) ?_)) | go_size))⟩

theorem parts32_zf (x y : BitVec 32) (h : (y == 0#32) = true) (w : World) : Calls Try.prog 29 #[.int .u64 (N (Alu.up x)), .int .u64 (N (Alu.up y)), .int .i64 32, .bool false] w fun e w' => e = .returned (.tuple #[.int .u64 (N (Alu.up 0#32)), .int .u64 (N (Alu.up x))]) ∧ Below w.heap.size w w' := by
  have hy : y = 0#32 := by simpa using h
  subst hy
  rw [Alu.up_zero]
  go_enter Try.func29, Try.ntmps29
  go_wp2_with (first | (go_at_call 36; (with_reducible refine (size64_c _ _).mono ?_); rintro e w1 ⟨rfl, rfl⟩) | (go_at_call 36; (with_reducible refine (size32_c _ _).mono ?_); rintro e w1 ⟨rfl, rfl⟩) | (go_at_call 30; (with_reducible refine (neg64_c _ _).mono ?_); rintro e w1 ⟨rfl, rfl⟩) | (go_at_call 30; (with_reducible refine (neg32_c _ _).mono ?_); rintro e w1 ⟨rfl, rfl⟩) | (go_at_call 27; (with_reducible refine (cut64_c _ _).mono ?_); rintro e w1 ⟨rfl, rfl⟩) | (go_at_call 27; (with_reducible refine (cut32_c _ _).mono ?_); rintro e w1 ⟨rfl, rfl⟩))
  go_ret2
  exact ⟨rfl, (by repeat' (first | (with_reducible exact Below.refl _ _) | (with_reducible assumption) | (with_reducible refine Below.alloc ?_ ?_ _) | (with_reducible refine Below.setCell ?_ ?_ _) | (with_reducible refine Below.drew ?_) | (with_reducible refine below_dn ?_ _) | (with_reducible refine Below.trans ?_ (Below.mono (by assumption) ?_)) | go_size))⟩

theorem parts32_c (x y : BitVec 32) (sg : Bool) (w : World) : Calls Try.prog 29 #[.int .u64 (N (Alu.up x)), .int .u64 (N (Alu.up y)), .int .i64 32, .bool sg] w fun e w' => e = .returned (.tuple #[.int .u64 (N (Alu.up (if sg then x.sdiv y else x / y))), .int .u64 (N (Alu.up (if sg then x.srem y else x % y)))]) ∧ Below w.heap.size w w' := by
  obtain ⟨e1, e2, e3, e4⟩ := Alu.div_zero 32 x
  cases h : (y == 0#32)
  · cases sg
    · exact parts32_u x y h w
    · have := parts32_s x y h w
      rw [Alu.quoS_eq, Alu.remS_eq] at this
      exact this
  · have hy : y = 0#32 := by simpa using h
    cases sg
    · have := parts32_zf x y h w
      subst hy
      rw [if_neg (by decide), if_neg (by decide), e1, e2]
      exact this
    · have := parts32_zt x y h w
      subst hy
      rw [if_pos rfl, if_pos rfl, e3, e4]
      exact this

end Hk
