/- The reference of arithmetic: what it makes, wide, of simple kinds. No condition. -/
import Derived.Test.YtigpljbfdkpopaaProg
import Derived.Test.YtigpljbfdkpopaaWd
import Derived.Test.YtigpljbfdkpopaaAluRef
import Derived.Test.YtigpljbfdkpopaaRb1
namespace Hk
open Go Go.RowKit Go.Proofs
set_option linter.unusedSimpArgs false
set_option linter.unusedVariables false
set_option maxRecDepth 100000
theorem by_word (x : BitVec 64) (n : Nat) (h : n ≤ 64) (h0 : 0 < n) : wrap64 (N (x % BitVec.ofNat 64 n)) = N (x % BitVec.ofNat 64 n) := by
  have e : (BitVec.ofNat 64 n).toNat = n := by rw [BitVec.toNat_ofNat]; omega
  have : (x % BitVec.ofNat 64 n).toNat < n := by rw [BitVec.toNat_umod, e]; exact Nat.mod_lt _ h0
  unfold wrap64 N
  omega

theorem rdo_w_add (a b : BitVec 64) (w : World) : Calls Try.prog 14 #[.int .u8 0, .bool true, .int .i16 0, .int .u64 (N a), .int .u64 (N b)] w fun e w' => e = .returned (.tuple #[.int .u64 (N (Alu.val (Alu.go (0) true (0) a b))), .int .i64 (Alu.err (Alu.go (0) true (0) a b))]) ∧ w = w' := by
  rw [Alu.wide_add, Alu.val_some, Alu.err_some]
  have hw : wrap64 (N (b % 64#64)) = N (b % 64#64) := by_word _ 64 (by decide) (by decide)
  go_enter Try.func14, Try.ntmps14
  go_wp2_with (first | (go_at_call 37; (with_reducible refine (cut64_c _ _).mono ?_); rintro e w1 ⟨rfl, rfl⟩))
  go_ret2
  exact ⟨rfl, rfl⟩

theorem rdo_w_sub (a b : BitVec 64) (w : World) : Calls Try.prog 14 #[.int .u8 16, .bool true, .int .i16 0, .int .u64 (N a), .int .u64 (N b)] w fun e w' => e = .returned (.tuple #[.int .u64 (N (Alu.val (Alu.go (16) true (0) a b))), .int .i64 (Alu.err (Alu.go (16) true (0) a b))]) ∧ w = w' := by
  rw [Alu.wide_sub, Alu.val_some, Alu.err_some]
  have hw : wrap64 (N (b % 64#64)) = N (b % 64#64) := by_word _ 64 (by decide) (by decide)
  go_enter Try.func14, Try.ntmps14
  go_wp2_with (first | (go_at_call 37; (with_reducible refine (cut64_c _ _).mono ?_); rintro e w1 ⟨rfl, rfl⟩))
  go_ret2
  exact ⟨rfl, rfl⟩

theorem rdo_w_mul (a b : BitVec 64) (w : World) : Calls Try.prog 14 #[.int .u8 32, .bool true, .int .i16 0, .int .u64 (N a), .int .u64 (N b)] w fun e w' => e = .returned (.tuple #[.int .u64 (N (Alu.val (Alu.go (32) true (0) a b))), .int .i64 (Alu.err (Alu.go (32) true (0) a b))]) ∧ w = w' := by
  rw [Alu.wide_mul, Alu.val_some, Alu.err_some]
  have hw : wrap64 (N (b % 64#64)) = N (b % 64#64) := by_word _ 64 (by decide) (by decide)
  go_enter Try.func14, Try.ntmps14
  go_wp2_with (first | (go_at_call 37; (with_reducible refine (cut64_c _ _).mono ?_); rintro e w1 ⟨rfl, rfl⟩))
  go_ret2
  exact ⟨rfl, rfl⟩

theorem rdo_w_or (a b : BitVec 64) (w : World) : Calls Try.prog 14 #[.int .u8 64, .bool true, .int .i16 0, .int .u64 (N a), .int .u64 (N b)] w fun e w' => e = .returned (.tuple #[.int .u64 (N (Alu.val (Alu.go (64) true (0) a b))), .int .i64 (Alu.err (Alu.go (64) true (0) a b))]) ∧ w = w' := by
  rw [Alu.wide_or, Alu.val_some, Alu.err_some]
  have hw : wrap64 (N (b % 64#64)) = N (b % 64#64) := by_word _ 64 (by decide) (by decide)
  go_enter Try.func14, Try.ntmps14
  go_wp2_with (first | (go_at_call 37; (with_reducible refine (cut64_c _ _).mono ?_); rintro e w1 ⟨rfl, rfl⟩))
  go_ret2
  exact ⟨rfl, rfl⟩

theorem rdo_w_and (a b : BitVec 64) (w : World) : Calls Try.prog 14 #[.int .u8 80, .bool true, .int .i16 0, .int .u64 (N a), .int .u64 (N b)] w fun e w' => e = .returned (.tuple #[.int .u64 (N (Alu.val (Alu.go (80) true (0) a b))), .int .i64 (Alu.err (Alu.go (80) true (0) a b))]) ∧ w = w' := by
  rw [Alu.wide_and, Alu.val_some, Alu.err_some]
  have hw : wrap64 (N (b % 64#64)) = N (b % 64#64) := by_word _ 64 (by decide) (by decide)
  go_enter Try.func14, Try.ntmps14
  go_wp2_with (first | (go_at_call 37; (with_reducible refine (cut64_c _ _).mono ?_); rintro e w1 ⟨rfl, rfl⟩))
  go_ret2
  exact ⟨rfl, rfl⟩

theorem rdo_w_xor (a b : BitVec 64) (w : World) : Calls Try.prog 14 #[.int .u8 160, .bool true, .int .i16 0, .int .u64 (N a), .int .u64 (N b)] w fun e w' => e = .returned (.tuple #[.int .u64 (N (Alu.val (Alu.go (160) true (0) a b))), .int .i64 (Alu.err (Alu.go (160) true (0) a b))]) ∧ w = w' := by
  rw [Alu.wide_xor, Alu.val_some, Alu.err_some]
  have hw : wrap64 (N (b % 64#64)) = N (b % 64#64) := by_word _ 64 (by decide) (by decide)
  go_enter Try.func14, Try.ntmps14
  go_wp2_with (first | (go_at_call 37; (with_reducible refine (cut64_c _ _).mono ?_); rintro e w1 ⟨rfl, rfl⟩))
  go_ret2
  exact ⟨rfl, rfl⟩

theorem rdo_w_lsh (a b : BitVec 64) (w : World) : Calls Try.prog 14 #[.int .u8 96, .bool true, .int .i16 0, .int .u64 (N a), .int .u64 (N b)] w fun e w' => e = .returned (.tuple #[.int .u64 (N (Alu.val (Alu.go (96) true (0) a b))), .int .i64 (Alu.err (Alu.go (96) true (0) a b))]) ∧ w = w' := by
  rw [Alu.wide_lsh, Alu.val_some, Alu.err_some]
  have hw : wrap64 (N (b % 64#64)) = N (b % 64#64) := by_word _ 64 (by decide) (by decide)
  go_enter Try.func14, Try.ntmps14
  go_wp2_with (first | (go_at_call 37; (with_reducible refine (cut64_c _ _).mono ?_); rintro e w1 ⟨rfl, rfl⟩))
  go_ret2
  exact ⟨rfl, rfl⟩

theorem rdo_w_rsh (a b : BitVec 64) (w : World) : Calls Try.prog 14 #[.int .u8 112, .bool true, .int .i16 0, .int .u64 (N a), .int .u64 (N b)] w fun e w' => e = .returned (.tuple #[.int .u64 (N (Alu.val (Alu.go (112) true (0) a b))), .int .i64 (Alu.err (Alu.go (112) true (0) a b))]) ∧ w = w' := by
  rw [Alu.wide_rsh, Alu.val_some, Alu.err_some]
  have hw : wrap64 (N (b % 64#64)) = N (b % 64#64) := by_word _ 64 (by decide) (by decide)
  go_enter Try.func14, Try.ntmps14
  go_wp2_with (first | (go_at_call 37; (with_reducible refine (cut64_c _ _).mono ?_); rintro e w1 ⟨rfl, rfl⟩))
  go_ret2
  exact ⟨rfl, rfl⟩

theorem rdo_w_neg (a b : BitVec 64) (w : World) : Calls Try.prog 14 #[.int .u8 128, .bool true, .int .i16 0, .int .u64 (N a), .int .u64 (N b)] w fun e w' => e = .returned (.tuple #[.int .u64 (N (Alu.val (Alu.go (128) true (0) a b))), .int .i64 (Alu.err (Alu.go (128) true (0) a b))]) ∧ w = w' := by
  rw [Alu.wide_neg, Alu.val_some, Alu.err_some]
  have hw : wrap64 (N (b % 64#64)) = N (b % 64#64) := by_word _ 64 (by decide) (by decide)
  go_enter Try.func14, Try.ntmps14
  go_wp2_with (first | (go_at_call 37; (with_reducible refine (cut64_c _ _).mono ?_); rintro e w1 ⟨rfl, rfl⟩))
  go_ret2
  exact ⟨rfl, rfl⟩

theorem rdo_w_mov (a b : BitVec 64) (w : World) : Calls Try.prog 14 #[.int .u8 176, .bool true, .int .i16 0, .int .u64 (N a), .int .u64 (N b)] w fun e w' => e = .returned (.tuple #[.int .u64 (N (Alu.val (Alu.go (176) true (0) a b))), .int .i64 (Alu.err (Alu.go (176) true (0) a b))]) ∧ w = w' := by
  rw [Alu.wide_mov, Alu.val_some, Alu.err_some]
  have hw : wrap64 (N (b % 64#64)) = N (b % 64#64) := by_word _ 64 (by decide) (by decide)
  go_enter Try.func14, Try.ntmps14
  go_wp2_with (first | (go_at_call 37; (with_reducible refine (cut64_c _ _).mono ?_); rintro e w1 ⟨rfl, rfl⟩))
  go_ret2
  exact ⟨rfl, rfl⟩

end Hk
