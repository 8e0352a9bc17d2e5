/- The reference of arithmetic: its cut. No condition but those in each statement. The reference of arithmetic: cut, negative, size, of both widths. No condition. The reference of arithmetic: parts. No condition but that in each statement. The reference of arithmetic: Sign. No condition but those in each statement. -/
import Derived.Test.YtmhkngblpojeaaaProg
import Derived.Test.YtmhkngblpojeaaaGp
import Derived.Test.YtmhkngblpojeaaaGq
namespace Hk
open Go Go.RowKit Go.Proofs
set_option linter.unusedSimpArgs false
set_option linter.unusedVariables false
set_option maxRecDepth 100000
theorem cut64_c (a : BitVec 64) (w : World) : Calls Try.prog 45 #[.int .u64 (N a), .int .i64 64] w fun e w' => e = .returned (.int .u64 (N a)) ∧ w = w' := by
  go_enter Try.func45, Try.ntmps45
  go_wp2
  go_ret
  exact ⟨rfl, rfl⟩

theorem shl_ne (k : Int) (h0 : 0 ≤ k) (h1 : k ≤ 63) : 1#64 <<< k.toNat ≠ 0#64 := by
  intro h
  have := congrArg BitVec.toNat h
  rw [BitVec.toNat_shiftLeft, Nat.shiftLeft_eq] at this
  have e : (2 : Nat) ^ k.toNat < 2 ^ 64 := Nat.pow_lt_pow_right (by omega) (by omega)
  have e1 : (1#64).toNat = 1 := rfl
  rw [e1, Nat.one_mul, Nat.mod_eq_of_lt e] at this
  have := Nat.two_pow_pos k.toNat
  simp at *

theorem rcut2_c (a : BitVec 64) (k : Int) (h0 : 1 ≤ k) (h1 : k ≤ 63) (w : World) : Calls Try.prog 45 #[.int .u64 (N a), .int .i64 k] w fun e w' => e = .returned (.int .u64 (N (a % 1#64 <<< k.toNat))) ∧ w = w' := by
  have h2 : (k == 64) = false := by simp; omega
  have h3 : 0 ≤ k := by omega
  have h4 := shl_ne k h3 h1
  go_enter Try.func45, Try.ntmps45
  go_wp2
  go_ret
  exact ⟨rfl, rfl⟩

end Hk

namespace Hk
open Go Go.RowKit Go.Proofs
set_option linter.unusedSimpArgs false
set_option linter.unusedVariables false
set_option maxRecDepth 100000
theorem cut32_c (z : BitVec 64) (w : World) : Calls Try.prog 45 #[.int .u64 (N z), .int .i64 32] w fun e w' => e = .returned (.int .u64 (N (Alu.up (Alu.dn z)))) ∧ w = w' := by
  rw [← Alu.cut_up]
  exact rcut2_c z 32 (by omega) (by omega) w

theorem neg64_c (x : BitVec 64) (w : World) : Calls Try.prog 48 #[.int .u64 (N x), .int .i64 64] w fun e w' => e = .returned (.bool (x.msb)) ∧ w = w' := by
  rw [← Alu.neg_w]
  go_enter Try.func48, Try.ntmps48
  go_wp2
  go_ret
  exact ⟨rfl, rfl⟩

theorem neg32_c (X : BitVec 32) (w : World) : Calls Try.prog 48 #[.int .u64 (N (Alu.up X)), .int .i64 32] w fun e w' => e = .returned (.bool (X.msb)) ∧ w = w' := by
  rw [← Alu.neg_n]
  go_enter Try.func48, Try.ntmps48
  go_wp2
  go_ret
  exact ⟨rfl, rfl⟩

theorem size64_c (x : BitVec 64) (w : World) : Calls Try.prog 90 #[.int .u64 (N x), .int .i64 64] w fun e w' => e = .returned (.int .u64 (N (Alu.mag x))) ∧ w = w' := by
  cases h : x.msb
  all_goals
    go_enter Try.func90, Try.ntmps90
    go_wp2_with (first | (go_at_call 45; (with_reducible refine (cut64_c _ _).mono ?_); rintro e w1 ⟨rfl, rfl⟩) | (go_at_call 48; (with_reducible refine (neg64_c _ _).mono ?_); rintro e w1 ⟨rfl, rfl⟩))
    go_ret
    exact ⟨by simp [Alu.mag, h], rfl⟩

theorem size32_c (X : BitVec 32) (w : World) : Calls Try.prog 90 #[.int .u64 (N (Alu.up X)), .int .i64 32] w fun e w' => e = .returned (.int .u64 (N (Alu.up (Alu.mag X)))) ∧ w = w' := by
  cases h : X.msb
  all_goals
    go_enter Try.func90, Try.ntmps90
    go_wp2_with (first | (go_at_call 45; (with_reducible refine (cut32_c _ _).mono ?_); rintro e w1 ⟨rfl, rfl⟩) | (go_at_call 48; (with_reducible refine (neg32_c _ _).mono ?_); rintro e w1 ⟨rfl, rfl⟩))
    go_ret
    exact ⟨by simp [Alu.mag, h, Alu.dn_neg'], rfl⟩

end Hk

namespace Hk
open Go Go.RowKit Go.Proofs
set_option linter.unusedSimpArgs false
set_option linter.unusedVariables false
set_option maxRecDepth 100000
theorem parts64_u (x y : BitVec 64) (h : (y == 0#64) = false) (w : World) : Calls Try.prog 47 #[.int .u64 (N x), .int .u64 (N y), .int .i64 64, .bool false] w fun e w' => e = .returned (.tuple #[.int .u64 (N (x / y)), .int .u64 (N (x % y))]) ∧ Below w.heap.size w w' := by
  have hm := Alu.mag_ne h
  have hn : y ≠ 0#64 := by simpa using h
  go_enter Try.func47, Try.ntmps47
  go_wp2_with (first | (go_at_call 90; (with_reducible refine (size64_c _ _).mono ?_); rintro e w1 ⟨rfl, rfl⟩) | (go_at_call 90; (with_reducible refine (size32_c _ _).mono ?_); rintro e w1 ⟨rfl, rfl⟩) | (go_at_call 48; (with_reducible refine (neg64_c _ _).mono ?_); rintro e w1 ⟨rfl, rfl⟩) | (go_at_call 48; (with_reducible refine (neg32_c _ _).mono ?_); rintro e w1 ⟨rfl, rfl⟩) | (go_at_call 45; (with_reducible refine (cut64_c _ _).mono ?_); rintro e w1 ⟨rfl, rfl⟩) | (go_at_call 45; (with_reducible refine (cut32_c _ _).mono ?_); rintro e w1 ⟨rfl, rfl⟩))
  go_region
  go_wp2
  go_ret2
  exact ⟨by simp [Alu.up_div, Alu.up_mod], (by repeat' (first | (with_reducible exact Below.refl _ _) | (with_reducible assumption) | (with_reducible refine Below.alloc ?_ ?_ _) | (with_reducible refine Below.setCell ?_ ?_ _) | (with_reducible refine Below.drew ?_) | (with_reducible refine below_dn ?_ _) | (with_reducible refine Below.trans ?_ (Below.mono (by assumption) ?_)) | go_size))⟩

theorem parts64_s (x y : BitVec 64) (h : (y == 0#64) = false) (w : World) : Calls Try.prog 47 #[.int .u64 (N x), .int .u64 (N y), .int .i64 64, .bool true] w fun e w' => e = .returned (.tuple #[.int .u64 (N (Alu.quoS x y)), .int .u64 (N (Alu.remS x y))]) ∧ Below w.heap.size w w' := by
  have hm := Alu.mag_ne h
  have hn : y ≠ 0#64 := by simpa using h
  cases hx : x.msb <;> cases hy : y.msb
  all_goals
    go_enter Try.func47, Try.ntmps47
    go_wp2_with (first | (go_at_call 90; (with_reducible refine (size64_c _ _).mono ?_); rintro e w1 ⟨rfl, rfl⟩) | (go_at_call 90; (with_reducible refine (size32_c _ _).mono ?_); rintro e w1 ⟨rfl, rfl⟩) | (go_at_call 48; (with_reducible refine (neg64_c _ _).mono ?_); rintro e w1 ⟨rfl, rfl⟩) | (go_at_call 48; (with_reducible refine (neg32_c _ _).mono ?_); rintro e w1 ⟨rfl, rfl⟩) | (go_at_call 45; (with_reducible refine (cut64_c _ _).mono ?_); rintro e w1 ⟨rfl, rfl⟩) | (go_at_call 45; (with_reducible refine (cut32_c _ _).mono ?_); rintro e w1 ⟨rfl, rfl⟩))
    go_ret2
    exact ⟨by simp [Alu.quoS, Alu.remS, hx, hy, Alu.up_div, Alu.up_mod, Alu.dn_neg', Alu.dn_neg], (by repeat' (first | (with_reducible exact Below.refl _ _) | (with_reducible assumption) | (with_reducible refine Below.alloc ?_ ?_ _) | (with_reducible refine Below.setCell ?_ ?_ _) | (with_reducible refine Below.drew ?_) | (with_reducible refine below_dn ?_ _) | (with_reducible refine Below.trans ?_ (Below.mono (by assumption) ?_)) | go_size))⟩

theorem parts64_zt (x y : BitVec 64) (h : (y == 0#64) = true) (w : World) : Calls Try.prog 47 #[.int .u64 (N x), .int .u64 (N y), .int .i64 64, .bool true] w fun e w' => e = .returned (.tuple #[.int .u64 (N 0#64), .int .u64 (N x)]) ∧ Below w.heap.size w w' := by
  have hy : y = 0#64 := by simpa using h
  subst hy
  go_enter Try.func47, Try.ntmps47
  go_wp2_with (first | (go_at_call 90; (with_reducible refine (size64_c _ _).mono ?_); rintro e w1 ⟨rfl, rfl⟩) | (go_at_call 90; (with_reducible refine (size32_c _ _).mono ?_); rintro e w1 ⟨rfl, rfl⟩) | (go_at_call 48; (with_reducible refine (neg64_c _ _).mono ?_); rintro e w1 ⟨rfl, rfl⟩) | (go_at_call 48; (with_reducible refine (neg32_c _ _).mono ?_); rintro e w1 ⟨rfl, rfl⟩) | (go_at_call 45; (with_reducible refine (cut64_c _ _).mono ?_); rintro e w1 ⟨rfl, rfl⟩) | (go_at_call 45; (with_reducible refine (cut32_c _ _).mono ?_); rintro e w1 ⟨rfl, rfl⟩))
  go_ret2
  exact ⟨rfl, (by repeat' (first | (with_reducible exact Below.refl _ _) | (with_reducible assumption) | (with_reducible refine Below.alloc ?_ ?_ _) | (with_reducible refine Below.setCell ?_ ?_ _) | (with_reducible refine Below.drew ?_) | (with_reducible refine below_dn ?_ _) | (with_reducible refine Below.trans ?_ (Below.mono (by assumption) ?_)) | go_size))⟩

theorem parts64_zf (x y : BitVec 64) (h : (y == 0#64) = true) (w : World) : Calls Try.prog 47 #[.int .u64 (N x), .int .u64 (N y), .int .i64 64, .bool false] w fun e w' => e = .returned (.tuple #[.int .u64 (N 0#64), .int .u64 (N x)]) ∧ Below w.heap.size w w' := by
  have hy : y = 0#64 := by simpa using h
  subst hy
  go_enter Try.func47, Try.ntmps47
  go_wp2_with (first | (go_at_call 90; (with_reducible refine (size64_c _ _).mono ?_); rintro e w1 ⟨rfl, rfl⟩) | (go_at_call 90; (with_reducible refine (size32_c _ _).mono ?_); rintro e w1 ⟨rfl, rfl⟩) | (go_at_call 48; (with_reducible refine (neg64_c _ _).mono ?_); rintro e w1 ⟨rfl, rfl⟩) | (go_at_call 48; (with_reducible refine (neg32_c _ _).mono ?_); rintro e w1 ⟨rfl, rfl⟩) | (go_at_call 45; (with_reducible refine (cut64_c _ _).mono ?_); rintro e w1 ⟨rfl, rfl⟩) | (go_at_call 45; (with_reducible refine (cut32_c _ _).mono ?_); rintro e w1 ⟨rfl, rfl⟩))
  go_ret2
  exact ⟨rfl, (by repeat' (first | (with_reducible exact Below.refl _ _) | (with_reducible assumption) | (with_reducible refine Below.alloc ?_ ?_ _) | (with_reducible refine Below.setCell ?_ ?_ _) | (with_reducible refine Below.drew ?_) | (with_reducible refine below_dn ?_ _) | (with_reducible refine Below.trans ?_ (Below.mono (by assumption) ?_)) | go_size))⟩

theorem parts64_c (x y : BitVec 64) (sg : Bool) (w : World) : Calls Try.prog 47 #[.int .u64 (N x), .int .u64 (N y), .int .i64 64, .bool sg] w fun e w' => e = .returned (.tuple #[.int .u64 (N (if sg then x.sdiv y else x / y)), .int .u64 (N (if sg then x.srem y else x % y))]) ∧ Below w.heap.size w w' := by
  obtain ⟨e1, e2, e3, e4⟩ := Alu.div_zero 64 x
  cases h : (y == 0#64)
  · cases sg
    · exact parts64_u x y h w
    · have := parts64_s x y h w
      rw [Alu.quoS_eq, Alu.remS_eq] at this
      exact this
  · have hy : y = 0#64 := by simpa using h
    cases sg
    · have := parts64_zf x y h w
      subst hy
      rw [if_neg (by decide), if_neg (by decide), e1, e2]
      exact this
    · have := parts64_zt x y h w
      subst hy
      rw [if_pos rfl, if_pos rfl, e3, e4]
      exact this

theorem parts32_u (x y : BitVec 32) (h : (y == 0#32) = false) (w : World) : Calls Try.prog 47 #[.int .u64 (N (Alu.up x)), .int .u64 (N (Alu.up y)), .int .i64 32, .bool false] w fun e w' => e = .returned (.tuple #[.int .u64 (N (Alu.up (x / y))), .int .u64 (N (Alu.up (x % y)))]) ∧ Below w.heap.size w w' := by
  have hm := Alu.mag_ne h
  have hn : y ≠ 0#32 := by simpa using h
  have hm' := Alu.up_ne hm
  have hn' := Alu.up_ne hn
  have h' : (Alu.up y == 0#64) = false := by rw [Alu.up_zero_beq, h]
  go_enter Try.func47, Try.ntmps47
  go_wp2_with (first | (go_at_call 90; (with_reducible refine (size64_c _ _).mono ?_); rintro e w1 ⟨rfl, rfl⟩) | (go_at_call 90; (with_reducible refine (size32_c _ _).mono ?_); rintro e w1 ⟨rfl, rfl⟩) | (go_at_call 48; (with_reducible refine (neg64_c _ _).mono ?_); rintro e w1 ⟨rfl, rfl⟩) | (go_at_call 48; (with_reducible refine (neg32_c _ _).mono ?_); rintro e w1 ⟨rfl, rfl⟩) | (go_at_call 45; (with_reducible refine (cut64_c _ _).mono ?_); rintro e w1 ⟨rfl, rfl⟩) | (go_at_call 45; (with_reducible refine (cut32_c _ _).mono ?_); rintro e w1 ⟨rfl, rfl⟩))
  go_region
  go_wp2
  go_ret2
  exact ⟨by simp [Alu.up_div, Alu.up_mod], (by repeat' (first | (with_reducible exact Below.refl _ _) | (with_reducible assumption) | (with_reducible refine Below.alloc ?_ ?_ _) | (with_reducible refine Below.setCell ?_ ?_ _) | (with_reducible refine Below.drew ?_) | (with_reducible refine below_dn ?_ _) | (with_reducible refine Below.trans ?_ (Below.mono (by assumption) ?_)) | go_size))⟩

theorem parts32_s (x y : BitVec 32) (h : (y == 0#32) = false) (w : World) : Calls Try.prog 47 #[.int .u64 (N (Alu.up x)), .int .u64 (N (Alu.up y)), .int .i64 32, .bool true] w fun e w' => e = .returned (.tuple #[.int .u64 (N (Alu.up (Alu.quoS x y))), .int .u64 (N (Alu.up (Alu.remS x y)))]) ∧ Below w.heap.size w w' := by
  have hm := Alu.mag_ne h
  have hn : y ≠ 0#32 := by simpa using h
  have hm' := Alu.up_ne hm
  have hn' := Alu.up_ne hn
  have h' : (Alu.up y == 0#64) = false := by rw [Alu.up_zero_beq, h]
  cases hx : x.msb <;> cases hy : y.msb
  all_goals
    go_enter Try.func47, Try.ntmps47
    go_wp2_with (first | (go_at_call 90; (with_reducible refine (size64_c _ _).mono ?_); rintro e w1 ⟨rfl, rfl⟩) | (go_at_call 90; (with_reducible refine (size32_c _ _).mono ?_); rintro e w1 ⟨rfl, rfl⟩) | (go_at_call 48; (with_reducible refine (neg64_c _ _).mono ?_); rintro e w1 ⟨rfl, rfl⟩) | (go_at_call 48; (with_reducible refine (neg32_c _ _).mono ?_); rintro e w1 ⟨rfl, rfl⟩) | (go_at_call 45; (with_reducible refine (cut64_c _ _).mono ?_); rintro e w1 ⟨rfl, rfl⟩) | (go_at_call 45; (with_reducible refine (cut32_c _ _).mono ?_); rintro e w1 ⟨rfl, rfl⟩))
    go_ret2
    exact ⟨by simp [Alu.quoS, Alu.remS, hx, hy, Alu.up_div, Alu.up_mod, Alu.dn_neg', Alu.dn_neg], (by repeat' (first | (with_reducible exact Below.refl _ _) | (with_reducible assumption) | (with_reducible refine Below.alloc ?_ ?_ _) | (with_reducible refine Below.setCell ?_ ?_ _) | (with_reducible refine Below.drew ?_) | (with_reducible refine below_dn ?_ _) | (with_reducible refine Below.trans ?_ (Below.mono (by assumption) ?_)) | go_size))⟩

theorem parts32_zt (x y : BitVec 32) (h : (y == 0#32) = true) (w : World) : Calls Try.prog 47 #[.int .u64 (N (Alu.up x)), .int .u64 (N (Alu.up y)), .int .i64 32, .bool true] w fun e w' => e = .returned (.tuple #[.int .u64 (N (Alu.up 0#32)), .int .u64 (N (Alu.up x))]) ∧ Below w.heap.size w w' := by
  have hy : y = 0#32 := by simpa using h
  subst hy
  rw [Alu.up_zero]
  go_enter Try.func47, Try.ntmps47
  go_wp2_with (first | (go_at_call 90; (with_reducible refine (size64_c _ _).mono ?_); rintro e w1 ⟨rfl, rfl⟩) | (go_at_call 90; (with_reducible refine (size32_c _ _).mono ?_); rintro e w1 ⟨rfl, rfl⟩) | (go_at_call 48; (with_reducible refine (neg64_c _ _).mono ?_); rintro e w1 ⟨rfl, rfl⟩) | (go_at_call 48; (with_reducible refine (neg32_c _ _).mono ?_); rintro e w1 ⟨rfl, rfl⟩) | (go_at_call 45; (with_reducible refine (cut64_c _ _).mono ?_); rintro e w1 ⟨rfl, rfl⟩) | (go_at_call 45; (with_reducible refine (cut32_c _ _).mono ?_); rintro e w1 ⟨rfl, rfl⟩))
  go_ret2
  exact ⟨rfl, (by repeat' (first | (with_reducible exact Below.refl _ _) | (with_reducible assumption) | (with_reducible refine Below.alloc ?_ ?_ _) | (with_reducible refine Below.setCell ?_ ?_ _) | (with_reducible refine Below.drew ?_) | (with_reducible refine below_dn ?_ _) | (with_reducible refine Below.trans ?_ (Below.mono (by assumption) ?_)) | go_size))⟩

theorem parts32_zf (x y : BitVec 32) (h : (y == 0#32) = true) (w : World) : Calls Try.prog 47 #[.int .u64 (N (Alu.up x)), .int .u64 (N (Alu.up y)), .int .i64 32, .bool false] w fun e w' => e = .returned (.tuple #[.int .u64 (N (Alu.up 0#32)), .int .u64 (N (Alu.up x))]) ∧ Below w.heap.size w w' := by
  have hy : y = 0#32 := by simpa using h
  subst hy
  rw [Alu.up_zero]
  go_enter Try.func47, Try.ntmps47
  go_wp2_with (first | (go_at_call 90; (with_reducible refine (size64_c _ _).mono ?_); rintro e w1 ⟨rfl, rfl⟩) | (go_at_call 90; (with_reducible refine (size32_c _ _).mono ?_); rintro e w1 ⟨rfl, rfl⟩) | (go_at_call 48; (with_reducible refine (neg64_c _ _).mono ?_); rintro e w1 ⟨rfl, rfl⟩) | (go_at_call 48; (with_reducible refine (neg32_c _ _).mono ?_); rintro e w1 ⟨rfl, rfl⟩) | (go_at_call 45; (with_reducible refine (cut64_c _ _).mono ?_); rintro e w1 ⟨rfl, rfl⟩) | (go_at_call 45; (with_reducible refine (cut32_c _ _).mono ?_); rintro e w1 ⟨rfl, rfl⟩))
  go_ret2
  exact ⟨rfl, (by repeat' (first | (with_reducible exact Below.refl _ _) | (with_reducible assumption) | (with_reducible refine Below.alloc ?_ ?_ _) | (with_reducible refine Below.setCell ?_ ?_ _) | (with_reducible refine Below.drew ?_) | (with_reducible refine below_dn ?_ _) | (with_reducible refine Below.trans ?_ (Below.mono (by assumption) ?_)) | go_size))⟩

theorem parts32_c (x y : BitVec 32) (sg : Bool) (w : World) : Calls Try.prog 47 #[.int .u64 (N (Alu.up x)), .int .u64 (N (Alu.up y)), .int .i64 32, .bool sg] w fun e w' => e = .returned (.tuple #[.int .u64 (N (Alu.up (if sg then x.sdiv y else x / y))), .int .u64 (N (Alu.up (if sg then x.srem y else x % y)))]) ∧ Below w.heap.size w w' := by
  obtain ⟨e1, e2, e3, e4⟩ := Alu.div_zero 32 x
  cases h : (y == 0#32)
  · cases sg
    · exact parts32_u x y h w
    · have := parts32_s x y h w
      rw [Alu.quoS_eq, Alu.remS_eq] at this
      exact this
  · have hy : y = 0#32 := by simpa using h
    cases sg
    · have := parts32_zf x y h w
      subst hy
      rw [if_neg (by decide), if_neg (by decide), e1, e2]
      exact this
    · have := parts32_zt x y h w
      subst hy
      rw [if_pos rfl, if_pos rfl, e3, e4]
      exact this

end Hk

namespace Hk
open Go Go.RowKit Go.Proofs
set_option linter.unusedSimpArgs false
set_option linter.unusedVariables false
set_option maxRecDepth 100000
theorem rsign_o1 (a : BitVec 64) (k : Int) (h : k < 1) (w : World) : Calls Try.prog 46 #[.int .u64 (N a), .int .i64 k] w fun e w' => e = .returned (.int .u64 (N (Alu.sgn a k))) ∧ w = w' := by
  rw [Alu.sgn_out (.inl h)]
  go_enter Try.func46, Try.ntmps46
  go_wp2
  go_ret
  exact ⟨rfl, rfl⟩

theorem rsign_o2 (a : BitVec 64) (k : Int) (h : 64 < k) (w : World) : Calls Try.prog 46 #[.int .u64 (N a), .int .i64 k] w fun e w' => e = .returned (.int .u64 (N (Alu.sgn a k))) ∧ w = w' := by
  have h1 : ¬ k < 1 := by omega
  rw [Alu.sgn_out (.inr h)]
  go_enter Try.func46, Try.ntmps46
  go_wp2
  go_ret
  exact ⟨rfl, rfl⟩

theorem rsign_64 (a : BitVec 64) (w : World) : Calls Try.prog 46 #[.int .u64 (N a), .int .i64 64] w fun e w' => e = .returned (.int .u64 (N (Alu.sgn a 64))) ∧ w = w' := by
  rw [Alu.sgn_64]
  cases hz : (a >>> 63 == 0#64)
  all_goals
    go_enter Try.func46, Try.ntmps46
    go_wp2_with (first | (go_at_call 45; (with_reducible refine (cut64_c _ _).mono ?_); rintro e w1 ⟨rfl, rfl⟩))
    go_ret
    exact ⟨rfl, rfl⟩

theorem rsign_in (a : BitVec 64) (k : Nat) (h0 : 1 ≤ k) (h1 : k ≤ 63) (w : World) : Calls Try.prog 46 #[.int .u64 (N a), .int .i64 k] w fun e w' => e = .returned (.int .u64 (N (Alu.sgn a k))) ∧ w = w' := by
  rw [Alu.sgn_ref a k h0 h1]
  have hn : ((k : Int)).toNat = k := by omega
  have hm : ((k : Int) - 1).toNat = k - 1 := by omega
  have h2 : 0 ≤ (k : Int) - 1 := by omega
  have h3 : ¬ (k : Int) < 1 := by omega
  have h4 : ¬ 64 < (k : Int) := by omega
  have h5 : wrap64 ((k : Int) - 1) = (k : Int) - 1 := by unfold wrap64; omega
  have h6 : ((k : Int) == 64) = false := by simp; omega
  have h7 : 0 ≤ (k : Int) := by omega
  cases hz : ((a % 1#64 <<< k) >>> (k - 1) == 0#64)
  all_goals
    go_enter Try.func46, Try.ntmps46
    go_wp2_with (first | (go_at_call 45; (with_reducible refine (rcut2_c _ _ (by omega) (by omega) _).mono ?_); rintro e w1 ⟨rfl, rfl⟩))
    go_ret
    exact ⟨by simp [hz], rfl⟩

theorem rsign_c (a : BitVec 64) (k : Int) (w : World) : Calls Try.prog 46 #[.int .u64 (N a), .int .i64 k] w fun e w' => e = .returned (.int .u64 (N (Alu.sgn a k))) ∧ w = w' := by
  by_cases h0 : k < 1
  · exact rsign_o1 a k h0 w
  by_cases h1 : 64 < k
  · exact rsign_o2 a k h1 w
  by_cases h2 : k = 64
  · subst h2; exact rsign_64 a w
  have := rsign_in a k.toNat (by omega) (by omega) w
  rwa [show ((k.toNat : Nat) : Int) = k by omega] at this

end Hk

