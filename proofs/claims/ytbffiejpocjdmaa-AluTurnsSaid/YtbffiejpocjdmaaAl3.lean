/- Package alu: Do, way by way; memory is as it was. No condition but those in each statement. -/
import Derived.Test.YtbffiejpocjdmaaProg
import Derived.Test.YtbffiejpocjdmaaWd
import Derived.Test.YtbffiejpocjdmaaAluDo
import Derived.Test.YtbffiejpocjdmaaWa
import Derived.Test.YtbffiejpocjdmaaAl2
import Derived.Test.YtbffiejpocjdmaaAs1
namespace Hk
open Go Go.RowKit Go.Proofs
set_option linter.unusedSimpArgs false
set_option linter.unusedVariables false
set_option maxRecDepth 100000
theorem ado_w_add (a b : BitVec 64) (w : World) : Calls Try.prog 10 #[.int .u8 0, .bool true, .int .i16 0, .int .u64 (N a), .int .u64 (N b)] w fun e w' => e = .returned (.tuple #[.int .u64 (N (Alu.val (Alu.go (0) true (0) a b))), .int .i64 (Alu.err (Alu.go (0) true (0) a b))]) ∧ w = w' := by
  rw [show Alu.go 0 true 0 a b = some (a + b) from rfl]; simp only [Alu.val_some, Alu.err_some, Alu.val_none, Alu.err_none]
  go_enter Try.func10, Try.ntmps10
  go_wp2_with (first | (go_at_call 17; (with_reducible refine (simple_add _ _ _).mono ?_); rintro e w1 ⟨rfl, rfl⟩))
  go_ret2
  first | exact ⟨rfl, rfl⟩ | exact ⟨by simp, rfl⟩

theorem ado_n_add (a b : BitVec 64) (w : World) : Calls Try.prog 10 #[.int .u8 0, .bool false, .int .i16 0, .int .u64 (N a), .int .u64 (N b)] w fun e w' => e = .returned (.tuple #[.int .u64 (N (Alu.val (Alu.go (0) false (0) a b))), .int .i64 (Alu.err (Alu.go (0) false (0) a b))]) ∧ w = w' := by
  rw [Alu.nn_add a b]; simp only [Alu.val_some, Alu.err_some, Alu.val_none, Alu.err_none]
  go_enter Try.func10, Try.ntmps10
  go_wp2_with (first | (go_at_call 17; (with_reducible refine (simple_add _ _ _).mono ?_); rintro e w1 ⟨rfl, rfl⟩))
  go_ret2
  first | exact ⟨rfl, rfl⟩ | exact ⟨by simp, rfl⟩

theorem ado_o_add (wd : Bool) (off : Int) (h : ¬ off = 0) (a b : BitVec 64) (w : World) : Calls Try.prog 10 #[.int .u8 0, .bool wd, .int .i16 off, .int .u64 (N a), .int .u64 (N b)] w fun e w' => e = .returned (.tuple #[.int .u64 (N (Alu.val (Alu.go (0) wd (off) a b))), .int .i64 (Alu.err (Alu.go (0) wd (off) a b))]) ∧ w = w' := by
  rw [Alu.go_off a b 0 wd off h (by decide) (by decide) (by decide)]; simp only [Alu.val_some, Alu.err_some, Alu.val_none, Alu.err_none]
  have b0 : (off == 0) = false := by simpa using h
  have d0 : (off != 0) = true := by simpa using h
  cases wd
  all_goals
    go_enter Try.func10, Try.ntmps10
    go_wp2_with (first | (go_at_call 17; (with_reducible refine (simple_add _ _ _).mono ?_); rintro e w1 ⟨rfl, rfl⟩))
    go_ret2
    first | exact ⟨rfl, rfl⟩ | exact ⟨by simp, rfl⟩

theorem ado_w_sub (a b : BitVec 64) (w : World) : Calls Try.prog 10 #[.int .u8 16, .bool true, .int .i16 0, .int .u64 (N a), .int .u64 (N b)] w fun e w' => e = .returned (.tuple #[.int .u64 (N (Alu.val (Alu.go (16) true (0) a b))), .int .i64 (Alu.err (Alu.go (16) true (0) a b))]) ∧ w = w' := by
  rw [show Alu.go 16 true 0 a b = some (a - b) from rfl]; simp only [Alu.val_some, Alu.err_some, Alu.val_none, Alu.err_none]
  go_enter Try.func10, Try.ntmps10
  go_wp2_with (first | (go_at_call 17; (with_reducible refine (simple_sub _ _ _).mono ?_); rintro e w1 ⟨rfl, rfl⟩))
  go_ret2
  first | exact ⟨rfl, rfl⟩ | exact ⟨by simp, rfl⟩

theorem ado_n_sub (a b : BitVec 64) (w : World) : Calls Try.prog 10 #[.int .u8 16, .bool false, .int .i16 0, .int .u64 (N a), .int .u64 (N b)] w fun e w' => e = .returned (.tuple #[.int .u64 (N (Alu.val (Alu.go (16) false (0) a b))), .int .i64 (Alu.err (Alu.go (16) false (0) a b))]) ∧ w = w' := by
  rw [Alu.nn_sub a b]; simp only [Alu.val_some, Alu.err_some, Alu.val_none, Alu.err_none]
  go_enter Try.func10, Try.ntmps10
  go_wp2_with (first | (go_at_call 17; (with_reducible refine (simple_sub _ _ _).mono ?_); rintro e w1 ⟨rfl, rfl⟩))
  go_ret2
  first | exact ⟨rfl, rfl⟩ | exact ⟨by simp, rfl⟩

theorem ado_o_sub (wd : Bool) (off : Int) (h : ¬ off = 0) (a b : BitVec 64) (w : World) : Calls Try.prog 10 #[.int .u8 16, .bool wd, .int .i16 off, .int .u64 (N a), .int .u64 (N b)] w fun e w' => e = .returned (.tuple #[.int .u64 (N (Alu.val (Alu.go (16) wd (off) a b))), .int .i64 (Alu.err (Alu.go (16) wd (off) a b))]) ∧ w = w' := by
  rw [Alu.go_off a b 16 wd off h (by decide) (by decide) (by decide)]; simp only [Alu.val_some, Alu.err_some, Alu.val_none, Alu.err_none]
  have b0 : (off == 0) = false := by simpa using h
  have d0 : (off != 0) = true := by simpa using h
  cases wd
  all_goals
    go_enter Try.func10, Try.ntmps10
    go_wp2_with (first | (go_at_call 17; (with_reducible refine (simple_sub _ _ _).mono ?_); rintro e w1 ⟨rfl, rfl⟩))
    go_ret2
    first | exact ⟨rfl, rfl⟩ | exact ⟨by simp, rfl⟩

theorem ado_w_mul (a b : BitVec 64) (w : World) : Calls Try.prog 10 #[.int .u8 32, .bool true, .int .i16 0, .int .u64 (N a), .int .u64 (N b)] w fun e w' => e = .returned (.tuple #[.int .u64 (N (Alu.val (Alu.go (32) true (0) a b))), .int .i64 (Alu.err (Alu.go (32) true (0) a b))]) ∧ w = w' := by
  rw [show Alu.go 32 true 0 a b = some (a * b) from rfl]; simp only [Alu.val_some, Alu.err_some, Alu.val_none, Alu.err_none]
  go_enter Try.func10, Try.ntmps10
  go_wp2_with (first | (go_at_call 17; (with_reducible refine (simple_mul _ _ _).mono ?_); rintro e w1 ⟨rfl, rfl⟩))
  go_ret2
  first | exact ⟨rfl, rfl⟩ | exact ⟨by simp, rfl⟩

theorem ado_n_mul (a b : BitVec 64) (w : World) : Calls Try.prog 10 #[.int .u8 32, .bool false, .int .i16 0, .int .u64 (N a), .int .u64 (N b)] w fun e w' => e = .returned (.tuple #[.int .u64 (N (Alu.val (Alu.go (32) false (0) a b))), .int .i64 (Alu.err (Alu.go (32) false (0) a b))]) ∧ w = w' := by
  rw [Alu.nn_mul a b]; simp only [Alu.val_some, Alu.err_some, Alu.val_none, Alu.err_none]
  go_enter Try.func10, Try.ntmps10
  go_wp2_with (first | (go_at_call 17; (with_reducible refine (simple_mul _ _ _).mono ?_); rintro e w1 ⟨rfl, rfl⟩))
  go_ret2
  first | exact ⟨rfl, rfl⟩ | exact ⟨by simp, rfl⟩

theorem ado_o_mul (wd : Bool) (off : Int) (h : ¬ off = 0) (a b : BitVec 64) (w : World) : Calls Try.prog 10 #[.int .u8 32, .bool wd, .int .i16 off, .int .u64 (N a), .int .u64 (N b)] w fun e w' => e = .returned (.tuple #[.int .u64 (N (Alu.val (Alu.go (32) wd (off) a b))), .int .i64 (Alu.err (Alu.go (32) wd (off) a b))]) ∧ w = w' := by
  rw [Alu.go_off a b 32 wd off h (by decide) (by decide) (by decide)]; simp only [Alu.val_some, Alu.err_some, Alu.val_none, Alu.err_none]
  have b0 : (off == 0) = false := by simpa using h
  have d0 : (off != 0) = true := by simpa using h
  cases wd
  all_goals
    go_enter Try.func10, Try.ntmps10
    go_wp2_with (first | (go_at_call 17; (with_reducible refine (simple_mul _ _ _).mono ?_); rintro e w1 ⟨rfl, rfl⟩))
    go_ret2
    first | exact ⟨rfl, rfl⟩ | exact ⟨by simp, rfl⟩

theorem ado_w_or (a b : BitVec 64) (w : World) : Calls Try.prog 10 #[.int .u8 64, .bool true, .int .i16 0, .int .u64 (N a), .int .u64 (N b)] w fun e w' => e = .returned (.tuple #[.int .u64 (N (Alu.val (Alu.go (64) true (0) a b))), .int .i64 (Alu.err (Alu.go (64) true (0) a b))]) ∧ w = w' := by
  rw [show Alu.go 64 true 0 a b = some (a ||| b) from rfl]; simp only [Alu.val_some, Alu.err_some, Alu.val_none, Alu.err_none]
  go_enter Try.func10, Try.ntmps10
  go_wp2_with (first | (go_at_call 17; (with_reducible refine (simple_or _ _ _).mono ?_); rintro e w1 ⟨rfl, rfl⟩))
  go_ret2
  first | exact ⟨rfl, rfl⟩ | exact ⟨by simp, rfl⟩

theorem ado_n_or (a b : BitVec 64) (w : World) : Calls Try.prog 10 #[.int .u8 64, .bool false, .int .i16 0, .int .u64 (N a), .int .u64 (N b)] w fun e w' => e = .returned (.tuple #[.int .u64 (N (Alu.val (Alu.go (64) false (0) a b))), .int .i64 (Alu.err (Alu.go (64) false (0) a b))]) ∧ w = w' := by
  rw [Alu.nn_or a b]; simp only [Alu.val_some, Alu.err_some, Alu.val_none, Alu.err_none]
  go_enter Try.func10, Try.ntmps10
  go_wp2_with (first | (go_at_call 17; (with_reducible refine (simple_or _ _ _).mono ?_); rintro e w1 ⟨rfl, rfl⟩))
  go_ret2
  first | exact ⟨rfl, rfl⟩ | exact ⟨by simp, rfl⟩

theorem ado_o_or (wd : Bool) (off : Int) (h : ¬ off = 0) (a b : BitVec 64) (w : World) : Calls Try.prog 10 #[.int .u8 64, .bool wd, .int .i16 off, .int .u64 (N a), .int .u64 (N b)] w fun e w' => e = .returned (.tuple #[.int .u64 (N (Alu.val (Alu.go (64) wd (off) a b))), .int .i64 (Alu.err (Alu.go (64) wd (off) a b))]) ∧ w = w' := by
  rw [Alu.go_off a b 64 wd off h (by decide) (by decide) (by decide)]; simp only [Alu.val_some, Alu.err_some, Alu.val_none, Alu.err_none]
  have b0 : (off == 0) = false := by simpa using h
  have d0 : (off != 0) = true := by simpa using h
  cases wd
  all_goals
    go_enter Try.func10, Try.ntmps10
    go_wp2_with (first | (go_at_call 17; (with_reducible refine (simple_or _ _ _).mono ?_); rintro e w1 ⟨rfl, rfl⟩))
    go_ret2
    first | exact ⟨rfl, rfl⟩ | exact ⟨by simp, rfl⟩

theorem ado_w_and (a b : BitVec 64) (w : World) : Calls Try.prog 10 #[.int .u8 80, .bool true, .int .i16 0, .int .u64 (N a), .int .u64 (N b)] w fun e w' => e = .returned (.tuple #[.int .u64 (N (Alu.val (Alu.go (80) true (0) a b))), .int .i64 (Alu.err (Alu.go (80) true (0) a b))]) ∧ w = w' := by
  rw [show Alu.go 80 true 0 a b = some (a &&& b) from rfl]; simp only [Alu.val_some, Alu.err_some, Alu.val_none, Alu.err_none]
  go_enter Try.func10, Try.ntmps10
  go_wp2_with (first | (go_at_call 17; (with_reducible refine (simple_and _ _ _).mono ?_); rintro e w1 ⟨rfl, rfl⟩))
  go_ret2
  first | exact ⟨rfl, rfl⟩ | exact ⟨by simp, rfl⟩

theorem ado_n_and (a b : BitVec 64) (w : World) : Calls Try.prog 10 #[.int .u8 80, .bool false, .int .i16 0, .int .u64 (N a), .int .u64 (N b)] w fun e w' => e = .returned (.tuple #[.int .u64 (N (Alu.val (Alu.go (80) false (0) a b))), .int .i64 (Alu.err (Alu.go (80) false (0) a b))]) ∧ w = w' := by
  rw [Alu.nn_and a b]; simp only [Alu.val_some, Alu.err_some, Alu.val_none, Alu.err_none]
  go_enter Try.func10, Try.ntmps10
  go_wp2_with (first | (go_at_call 17; (with_reducible refine (simple_and _ _ _).mono ?_); rintro e w1 ⟨rfl, rfl⟩))
  go_ret2
  first | exact ⟨rfl, rfl⟩ | exact ⟨by simp, rfl⟩

theorem ado_o_and (wd : Bool) (off : Int) (h : ¬ off = 0) (a b : BitVec 64) (w : World) : Calls Try.prog 10 #[.int .u8 80, .bool wd, .int .i16 off, .int .u64 (N a), .int .u64 (N b)] w fun e w' => e = .returned (.tuple #[.int .u64 (N (Alu.val (Alu.go (80) wd (off) a b))), .int .i64 (Alu.err (Alu.go (80) wd (off) a b))]) ∧ w = w' := by
  rw [Alu.go_off a b 80 wd off h (by decide) (by decide) (by decide)]; simp only [Alu.val_some, Alu.err_some, Alu.val_none, Alu.err_none]
  have b0 : (off == 0) = false := by simpa using h
  have d0 : (off != 0) = true := by simpa using h
  cases wd
  all_goals
    go_enter Try.func10, Try.ntmps10
    go_wp2_with (first | (go_at_call 17; (with_reducible refine (simple_and _ _ _).mono ?_); rintro e w1 ⟨rfl, rfl⟩))
    go_ret2
    first | exact ⟨rfl, rfl⟩ | exact ⟨by simp, rfl⟩

theorem ado_w_xor (a b : BitVec 64) (w : World) : Calls Try.prog 10 #[.int .u8 160, .bool true, .int .i16 0, .int .u64 (N a), .int .u64 (N b)] w fun e w' => e = .returned (.tuple #[.int .u64 (N (Alu.val (Alu.go (160) true (0) a b))), .int .i64 (Alu.err (Alu.go (160) true (0) a b))]) ∧ w = w' := by
  rw [show Alu.go 160 true 0 a b = some (a ^^^ b) from rfl]; simp only [Alu.val_some, Alu.err_some, Alu.val_none, Alu.err_none]
  go_enter Try.func10, Try.ntmps10
  go_wp2_with (first | (go_at_call 17; (with_reducible refine (simple_xor _ _ _).mono ?_); rintro e w1 ⟨rfl, rfl⟩))
  go_ret2
  first | exact ⟨rfl, rfl⟩ | exact ⟨by simp, rfl⟩

theorem ado_n_xor (a b : BitVec 64) (w : World) : Calls Try.prog 10 #[.int .u8 160, .bool false, .int .i16 0, .int .u64 (N a), .int .u64 (N b)] w fun e w' => e = .returned (.tuple #[.int .u64 (N (Alu.val (Alu.go (160) false (0) a b))), .int .i64 (Alu.err (Alu.go (160) false (0) a b))]) ∧ w = w' := by
  rw [Alu.nn_xor a b]; simp only [Alu.val_some, Alu.err_some, Alu.val_none, Alu.err_none]
  go_enter Try.func10, Try.ntmps10
  go_wp2_with (first | (go_at_call 17; (with_reducible refine (simple_xor _ _ _).mono ?_); rintro e w1 ⟨rfl, rfl⟩))
  go_ret2
  first | exact ⟨rfl, rfl⟩ | exact ⟨by simp, rfl⟩

theorem ado_o_xor (wd : Bool) (off : Int) (h : ¬ off = 0) (a b : BitVec 64) (w : World) : Calls Try.prog 10 #[.int .u8 160, .bool wd, .int .i16 off, .int .u64 (N a), .int .u64 (N b)] w fun e w' => e = .returned (.tuple #[.int .u64 (N (Alu.val (Alu.go (160) wd (off) a b))), .int .i64 (Alu.err (Alu.go (160) wd (off) a b))]) ∧ w = w' := by
  rw [Alu.go_off a b 160 wd off h (by decide) (by decide) (by decide)]; simp only [Alu.val_some, Alu.err_some, Alu.val_none, Alu.err_none]
  have b0 : (off == 0) = false := by simpa using h
  have d0 : (off != 0) = true := by simpa using h
  cases wd
  all_goals
    go_enter Try.func10, Try.ntmps10
    go_wp2_with (first | (go_at_call 17; (with_reducible refine (simple_xor _ _ _).mono ?_); rintro e w1 ⟨rfl, rfl⟩))
    go_ret2
    first | exact ⟨rfl, rfl⟩ | exact ⟨by simp, rfl⟩

theorem ado_w_neg (a b : BitVec 64) (w : World) : Calls Try.prog 10 #[.int .u8 128, .bool true, .int .i16 0, .int .u64 (N a), .int .u64 (N b)] w fun e w' => e = .returned (.tuple #[.int .u64 (N (Alu.val (Alu.go (128) true (0) a b))), .int .i64 (Alu.err (Alu.go (128) true (0) a b))]) ∧ w = w' := by
  rw [show Alu.go 128 true 0 a b = some (-a) from rfl]; simp only [Alu.val_some, Alu.err_some, Alu.val_none, Alu.err_none]
  go_enter Try.func10, Try.ntmps10
  go_wp2_with (first | (go_at_call 17; (with_reducible refine (simple_neg _ _ _).mono ?_); rintro e w1 ⟨rfl, rfl⟩))
  go_ret2
  first | exact ⟨rfl, rfl⟩ | exact ⟨by simp, rfl⟩

theorem ado_n_neg (a b : BitVec 64) (w : World) : Calls Try.prog 10 #[.int .u8 128, .bool false, .int .i16 0, .int .u64 (N a), .int .u64 (N b)] w fun e w' => e = .returned (.tuple #[.int .u64 (N (Alu.val (Alu.go (128) false (0) a b))), .int .i64 (Alu.err (Alu.go (128) false (0) a b))]) ∧ w = w' := by
  rw [Alu.nn_neg a b]; simp only [Alu.val_some, Alu.err_some, Alu.val_none, Alu.err_none]
  go_enter Try.func10, Try.ntmps10
  go_wp2_with (first | (go_at_call 17; (with_reducible refine (simple_neg _ _ _).mono ?_); rintro e w1 ⟨rfl, rfl⟩))
  go_ret2
  first | exact ⟨rfl, rfl⟩ | exact ⟨by simp, rfl⟩

theorem ado_o_neg (wd : Bool) (off : Int) (h : ¬ off = 0) (a b : BitVec 64) (w : World) : Calls Try.prog 10 #[.int .u8 128, .bool wd, .int .i16 off, .int .u64 (N a), .int .u64 (N b)] w fun e w' => e = .returned (.tuple #[.int .u64 (N (Alu.val (Alu.go (128) wd (off) a b))), .int .i64 (Alu.err (Alu.go (128) wd (off) a b))]) ∧ w = w' := by
  rw [Alu.go_off a b 128 wd off h (by decide) (by decide) (by decide)]; simp only [Alu.val_some, Alu.err_some, Alu.val_none, Alu.err_none]
  have b0 : (off == 0) = false := by simpa using h
  have d0 : (off != 0) = true := by simpa using h
  cases wd
  all_goals
    go_enter Try.func10, Try.ntmps10
    go_wp2_with (first | (go_at_call 17; (with_reducible refine (simple_neg _ _ _).mono ?_); rintro e w1 ⟨rfl, rfl⟩))
    go_ret2
    first | exact ⟨rfl, rfl⟩ | exact ⟨by simp, rfl⟩

theorem ado_w_mov (a b : BitVec 64) (w : World) : Calls Try.prog 10 #[.int .u8 176, .bool true, .int .i16 0, .int .u64 (N a), .int .u64 (N b)] w fun e w' => e = .returned (.tuple #[.int .u64 (N (Alu.val (Alu.go (176) true (0) a b))), .int .i64 (Alu.err (Alu.go (176) true (0) a b))]) ∧ w = w' := by
  rw [show Alu.go 176 true 0 a b = some b from rfl]; simp only [Alu.val_some, Alu.err_some, Alu.val_none, Alu.err_none]
  go_enter Try.func10, Try.ntmps10
  go_wp2_with (first | (go_at_call 17; (with_reducible refine (simple_mov _ _ _).mono ?_); rintro e w1 ⟨rfl, rfl⟩))
  go_ret2
  first | exact ⟨rfl, rfl⟩ | exact ⟨by simp, rfl⟩

theorem ado_n_mov (a b : BitVec 64) (w : World) : Calls Try.prog 10 #[.int .u8 176, .bool false, .int .i16 0, .int .u64 (N a), .int .u64 (N b)] w fun e w' => e = .returned (.tuple #[.int .u64 (N (Alu.val (Alu.go (176) false (0) a b))), .int .i64 (Alu.err (Alu.go (176) false (0) a b))]) ∧ w = w' := by
  rw [Alu.nn_mov a b]; simp only [Alu.val_some, Alu.err_some, Alu.val_none, Alu.err_none]
  go_enter Try.func10, Try.ntmps10
  go_wp2_with (first | (go_at_call 17; (with_reducible refine (simple_mov _ _ _).mono ?_); rintro e w1 ⟨rfl, rfl⟩))
  go_ret2
  first | exact ⟨rfl, rfl⟩ | exact ⟨by simp, rfl⟩

theorem ado_w_lsh (a b : BitVec 64) (w : World) : Calls Try.prog 10 #[.int .u8 96, .bool true, .int .i16 0, .int .u64 (N a), .int .u64 (N b)] w fun e w' => e = .returned (.tuple #[.int .u64 (N (Alu.val (Alu.go (96) true (0) a b))), .int .i64 (Alu.err (Alu.go (96) true (0) a b))]) ∧ w = w' := by
  rw [Alu.ww_lsh a b]; simp only [Alu.val_some, Alu.err_some, Alu.val_none, Alu.err_none]
  go_enter Try.func10, Try.ntmps10
  go_wp2_with (first | (go_at_call 17; (with_reducible refine (simple_else _ (by first | assumption | decide) (by first | assumption | decide) (by first | assumption | decide) (by first | assumption | decide) (by first | assumption | decide) (by first | assumption | decide) (by first | assumption | decide) (by first | assumption | decide) _ _ _).mono ?_); rintro e w1 ⟨rfl, rfl⟩) | (go_at_call 18; (with_reducible refine (moved_w_lsh _ _ _).mono ?_); rintro e w1 ⟨rfl, rfl⟩))
  go_ret2
  first | exact ⟨rfl, rfl⟩ | exact ⟨by simp, rfl⟩

theorem ado_n_lsh (a b : BitVec 64) (w : World) : Calls Try.prog 10 #[.int .u8 96, .bool false, .int .i16 0, .int .u64 (N a), .int .u64 (N b)] w fun e w' => e = .returned (.tuple #[.int .u64 (N (Alu.val (Alu.go (96) false (0) a b))), .int .i64 (Alu.err (Alu.go (96) false (0) a b))]) ∧ w = w' := by
  rw [Alu.nn_lsh a b]; simp only [Alu.val_some, Alu.err_some, Alu.val_none, Alu.err_none]
  go_enter Try.func10, Try.ntmps10
  go_wp2_with (first | (go_at_call 17; (with_reducible refine (simple_else _ (by first | assumption | decide) (by first | assumption | decide) (by first | assumption | decide) (by first | assumption | decide) (by first | assumption | decide) (by first | assumption | decide) (by first | assumption | decide) (by first | assumption | decide) _ _ _).mono ?_); rintro e w1 ⟨rfl, rfl⟩) | (go_at_call 18; (with_reducible refine (moved_n_lsh _ _ _).mono ?_); rintro e w1 ⟨rfl, rfl⟩))
  go_ret2
  first | exact ⟨rfl, rfl⟩ | exact ⟨by simp, rfl⟩

theorem ado_o_lsh (wd : Bool) (off : Int) (h : ¬ off = 0) (a b : BitVec 64) (w : World) : Calls Try.prog 10 #[.int .u8 96, .bool wd, .int .i16 off, .int .u64 (N a), .int .u64 (N b)] w fun e w' => e = .returned (.tuple #[.int .u64 (N (Alu.val (Alu.go (96) wd (off) a b))), .int .i64 (Alu.err (Alu.go (96) wd (off) a b))]) ∧ w = w' := by
  rw [Alu.go_off a b 96 wd off h (by decide) (by decide) (by decide)]; simp only [Alu.val_some, Alu.err_some, Alu.val_none, Alu.err_none]
  have b0 : (off == 0) = false := by simpa using h
  have d0 : (off != 0) = true := by simpa using h
  cases wd
  all_goals
    go_enter Try.func10, Try.ntmps10
    go_wp2_with (first | (go_at_call 17; (with_reducible refine (simple_else _ (by first | assumption | decide) (by first | assumption | decide) (by first | assumption | decide) (by first | assumption | decide) (by first | assumption | decide) (by first | assumption | decide) (by first | assumption | decide) (by first | assumption | decide) _ _ _).mono ?_); rintro e w1 ⟨rfl, rfl⟩) | (go_at_call 18; (with_reducible refine (moved_w_lsh _ _ _).mono ?_); rintro e w1 ⟨rfl, rfl⟩) | (go_at_call 18; (with_reducible refine (moved_n_lsh _ _ _).mono ?_); rintro e w1 ⟨rfl, rfl⟩))
    go_ret2
    first | exact ⟨rfl, rfl⟩ | exact ⟨by simp, rfl⟩

theorem ado_w_rsh (a b : BitVec 64) (w : World) : Calls Try.prog 10 #[.int .u8 112, .bool true, .int .i16 0, .int .u64 (N a), .int .u64 (N b)] w fun e w' => e = .returned (.tuple #[.int .u64 (N (Alu.val (Alu.go (112) true (0) a b))), .int .i64 (Alu.err (Alu.go (112) true (0) a b))]) ∧ w = w' := by
  rw [Alu.ww_rsh a b]; simp only [Alu.val_some, Alu.err_some, Alu.val_none, Alu.err_none]
  go_enter Try.func10, Try.ntmps10
  go_wp2_with (first | (go_at_call 17; (with_reducible refine (simple_else _ (by first | assumption | decide) (by first | assumption | decide) (by first | assumption | decide) (by first | assumption | decide) (by first | assumption | decide) (by first | assumption | decide) (by first | assumption | decide) (by first | assumption | decide) _ _ _).mono ?_); rintro e w1 ⟨rfl, rfl⟩) | (go_at_call 18; (with_reducible refine (moved_w_rsh _ _ _).mono ?_); rintro e w1 ⟨rfl, rfl⟩))
  go_ret2
  first | exact ⟨rfl, rfl⟩ | exact ⟨by simp, rfl⟩

theorem ado_n_rsh (a b : BitVec 64) (w : World) : Calls Try.prog 10 #[.int .u8 112, .bool false, .int .i16 0, .int .u64 (N a), .int .u64 (N b)] w fun e w' => e = .returned (.tuple #[.int .u64 (N (Alu.val (Alu.go (112) false (0) a b))), .int .i64 (Alu.err (Alu.go (112) false (0) a b))]) ∧ w = w' := by
  rw [Alu.nn_rsh a b]; simp only [Alu.val_some, Alu.err_some, Alu.val_none, Alu.err_none]
  go_enter Try.func10, Try.ntmps10
  go_wp2_with (first | (go_at_call 17; (with_reducible refine (simple_else _ (by first | assumption | decide) (by first | assumption | decide) (by first | assumption | decide) (by first | assumption | decide) (by first | assumption | decide) (by first | assumption | decide) (by first | assumption | decide) (by first | assumption | decide) _ _ _).mono ?_); rintro e w1 ⟨rfl, rfl⟩) | (go_at_call 18; (with_reducible refine (moved_n_rsh _ _ _).mono ?_); rintro e w1 ⟨rfl, rfl⟩))
  go_ret2
  first | exact ⟨rfl, rfl⟩ | exact ⟨by simp, rfl⟩

theorem ado_o_rsh (wd : Bool) (off : Int) (h : ¬ off = 0) (a b : BitVec 64) (w : World) : Calls Try.prog 10 #[.int .u8 112, .bool wd, .int .i16 off, .int .u64 (N a), .int .u64 (N b)] w fun e w' => e = .returned (.tuple #[.int .u64 (N (Alu.val (Alu.go (112) wd (off) a b))), .int .i64 (Alu.err (Alu.go (112) wd (off) a b))]) ∧ w = w' := by
  rw [Alu.go_off a b 112 wd off h (by decide) (by decide) (by decide)]; simp only [Alu.val_some, Alu.err_some, Alu.val_none, Alu.err_none]
  have b0 : (off == 0) = false := by simpa using h
  have d0 : (off != 0) = true := by simpa using h
  cases wd
  all_goals
    go_enter Try.func10, Try.ntmps10
    go_wp2_with (first | (go_at_call 17; (with_reducible refine (simple_else _ (by first | assumption | decide) (by first | assumption | decide) (by first | assumption | decide) (by first | assumption | decide) (by first | assumption | decide) (by first | assumption | decide) (by first | assumption | decide) (by first | assumption | decide) _ _ _).mono ?_); rintro e w1 ⟨rfl, rfl⟩) | (go_at_call 18; (with_reducible refine (moved_w_rsh _ _ _).mono ?_); rintro e w1 ⟨rfl, rfl⟩) | (go_at_call 18; (with_reducible refine (moved_n_rsh _ _ _).mono ?_); rintro e w1 ⟨rfl, rfl⟩))
    go_ret2
    first | exact ⟨rfl, rfl⟩ | exact ⟨by simp, rfl⟩

theorem ado_w_arsh (a b : BitVec 64) (w : World) : Calls Try.prog 10 #[.int .u8 192, .bool true, .int .i16 0, .int .u64 (N a), .int .u64 (N b)] w fun e w' => e = .returned (.tuple #[.int .u64 (N (Alu.val (Alu.go (192) true (0) a b))), .int .i64 (Alu.err (Alu.go (192) true (0) a b))]) ∧ w = w' := by
  rw [Alu.ww_arsh a b]; simp only [Alu.val_some, Alu.err_some, Alu.val_none, Alu.err_none]
  go_enter Try.func10, Try.ntmps10
  go_wp2_with (first | (go_at_call 17; (with_reducible refine (simple_else _ (by first | assumption | decide) (by first | assumption | decide) (by first | assumption | decide) (by first | assumption | decide) (by first | assumption | decide) (by first | assumption | decide) (by first | assumption | decide) (by first | assumption | decide) _ _ _).mono ?_); rintro e w1 ⟨rfl, rfl⟩) | (go_at_call 18; (with_reducible refine (moved_w_arsh _ _ _).mono ?_); rintro e w1 ⟨rfl, rfl⟩))
  go_ret2
  first | exact ⟨rfl, rfl⟩ | exact ⟨by simp, rfl⟩

theorem ado_n_arsh (a b : BitVec 64) (w : World) : Calls Try.prog 10 #[.int .u8 192, .bool false, .int .i16 0, .int .u64 (N a), .int .u64 (N b)] w fun e w' => e = .returned (.tuple #[.int .u64 (N (Alu.val (Alu.go (192) false (0) a b))), .int .i64 (Alu.err (Alu.go (192) false (0) a b))]) ∧ w = w' := by
  rw [Alu.nn_arsh a b]; simp only [Alu.val_some, Alu.err_some, Alu.val_none, Alu.err_none]
  go_enter Try.func10, Try.ntmps10
  go_wp2_with (first | (go_at_call 17; (with_reducible refine (simple_else _ (by first | assumption | decide) (by first | assumption | decide) (by first | assumption | decide) (by first | assumption | decide) (by first | assumption | decide) (by first | assumption | decide) (by first | assumption | decide) (by first | assumption | decide) _ _ _).mono ?_); rintro e w1 ⟨rfl, rfl⟩) | (go_at_call 18; (with_reducible refine (moved_n_arsh _ _ _).mono ?_); rintro e w1 ⟨rfl, rfl⟩))
  go_ret2
  first | exact ⟨rfl, rfl⟩ | exact ⟨by simp, rfl⟩

theorem ado_o_arsh (wd : Bool) (off : Int) (h : ¬ off = 0) (a b : BitVec 64) (w : World) : Calls Try.prog 10 #[.int .u8 192, .bool wd, .int .i16 off, .int .u64 (N a), .int .u64 (N b)] w fun e w' => e = .returned (.tuple #[.int .u64 (N (Alu.val (Alu.go (192) wd (off) a b))), .int .i64 (Alu.err (Alu.go (192) wd (off) a b))]) ∧ w = w' := by
  rw [Alu.go_off a b 192 wd off h (by decide) (by decide) (by decide)]; simp only [Alu.val_some, Alu.err_some, Alu.val_none, Alu.err_none]
  have b0 : (off == 0) = false := by simpa using h
  have d0 : (off != 0) = true := by simpa using h
  cases wd
  all_goals
    go_enter Try.func10, Try.ntmps10
    go_wp2_with (first | (go_at_call 17; (with_reducible refine (simple_else _ (by first | assumption | decide) (by first | assumption | decide) (by first | assumption | decide) (by first | assumption | decide) (by first | assumption | decide) (by first | assumption | decide) (by first | assumption | decide) (by first | assumption | decide) _ _ _).mono ?_); rintro e w1 ⟨rfl, rfl⟩) | (go_at_call 18; (with_reducible refine (moved_w_arsh _ _ _).mono ?_); rintro e w1 ⟨rfl, rfl⟩) | (go_at_call 18; (with_reducible refine (moved_n_arsh _ _ _).mono ?_); rintro e w1 ⟨rfl, rfl⟩))
    go_ret2
    first | exact ⟨rfl, rfl⟩ | exact ⟨by simp, rfl⟩

theorem ado_w_s8 (a b : BitVec 64) (w : World) : Calls Try.prog 10 #[.int .u8 176, .bool true, .int .i16 8, .int .u64 (N a), .int .u64 (N b)] w fun e w' => e = .returned (.tuple #[.int .u64 (N (Alu.val (Alu.go (176) true (8) a b))), .int .i64 (Alu.err (Alu.go (176) true (8) a b))]) ∧ w = w' := by
  rw [Alu.ww_s8 a b]; simp only [Alu.val_some, Alu.err_some, Alu.val_none, Alu.err_none]
  go_enter Try.func10, Try.ntmps10
  go_wp2_with (first | (go_at_call 17; (with_reducible refine (simple_mov _ _ _).mono ?_); rintro e w1 ⟨rfl, rfl⟩) | (go_at_call 15; (with_reducible refine (sign_c _ _ _).mono ?_); rintro e w1 ⟨rfl, rfl⟩))
  go_ret2
  first | exact ⟨rfl, rfl⟩ | exact ⟨by simp, rfl⟩

theorem ado_n_s8 (a b : BitVec 64) (w : World) : Calls Try.prog 10 #[.int .u8 176, .bool false, .int .i16 8, .int .u64 (N a), .int .u64 (N b)] w fun e w' => e = .returned (.tuple #[.int .u64 (N (Alu.val (Alu.go (176) false (8) a b))), .int .i64 (Alu.err (Alu.go (176) false (8) a b))]) ∧ w = w' := by
  rw [Alu.nn_s8 a b]; simp only [Alu.val_some, Alu.err_some, Alu.val_none, Alu.err_none]
  go_enter Try.func10, Try.ntmps10
  go_wp2_with (first | (go_at_call 17; (with_reducible refine (simple_mov _ _ _).mono ?_); rintro e w1 ⟨rfl, rfl⟩) | (go_at_call 15; (with_reducible refine (sign_c _ _ _).mono ?_); rintro e w1 ⟨rfl, rfl⟩))
  go_ret2
  first | exact ⟨rfl, rfl⟩ | exact ⟨by simp, rfl⟩

theorem ado_w_s16 (a b : BitVec 64) (w : World) : Calls Try.prog 10 #[.int .u8 176, .bool true, .int .i16 16, .int .u64 (N a), .int .u64 (N b)] w fun e w' => e = .returned (.tuple #[.int .u64 (N (Alu.val (Alu.go (176) true (16) a b))), .int .i64 (Alu.err (Alu.go (176) true (16) a b))]) ∧ w = w' := by
  rw [Alu.ww_s16 a b]; simp only [Alu.val_some, Alu.err_some, Alu.val_none, Alu.err_none]
  go_enter Try.func10, Try.ntmps10
  go_wp2_with (first | (go_at_call 17; (with_reducible refine (simple_mov _ _ _).mono ?_); rintro e w1 ⟨rfl, rfl⟩) | (go_at_call 15; (with_reducible refine (sign_c _ _ _).mono ?_); rintro e w1 ⟨rfl, rfl⟩))
  go_ret2
  first | exact ⟨rfl, rfl⟩ | exact ⟨by simp, rfl⟩

theorem ado_n_s16 (a b : BitVec 64) (w : World) : Calls Try.prog 10 #[.int .u8 176, .bool false, .int .i16 16, .int .u64 (N a), .int .u64 (N b)] w fun e w' => e = .returned (.tuple #[.int .u64 (N (Alu.val (Alu.go (176) false (16) a b))), .int .i64 (Alu.err (Alu.go (176) false (16) a b))]) ∧ w = w' := by
  rw [Alu.nn_s16 a b]; simp only [Alu.val_some, Alu.err_some, Alu.val_none, Alu.err_none]
  go_enter Try.func10, Try.ntmps10
  go_wp2_with (first | (go_at_call 17; (with_reducible refine (simple_mov _ _ _).mono ?_); rintro e w1 ⟨rfl, rfl⟩) | (go_at_call 15; (with_reducible refine (sign_c _ _ _).mono ?_); rintro e w1 ⟨rfl, rfl⟩))
  go_ret2
  first | exact ⟨rfl, rfl⟩ | exact ⟨by simp, rfl⟩

theorem ado_w_s32 (a b : BitVec 64) (w : World) : Calls Try.prog 10 #[.int .u8 176, .bool true, .int .i16 32, .int .u64 (N a), .int .u64 (N b)] w fun e w' => e = .returned (.tuple #[.int .u64 (N (Alu.val (Alu.go (176) true (32) a b))), .int .i64 (Alu.err (Alu.go (176) true (32) a b))]) ∧ w = w' := by
  rw [Alu.ww_s32 a b]; simp only [Alu.val_some, Alu.err_some, Alu.val_none, Alu.err_none]
  go_enter Try.func10, Try.ntmps10
  go_wp2_with (first | (go_at_call 17; (with_reducible refine (simple_mov _ _ _).mono ?_); rintro e w1 ⟨rfl, rfl⟩) | (go_at_call 15; (with_reducible refine (sign_c _ _ _).mono ?_); rintro e w1 ⟨rfl, rfl⟩))
  go_ret2
  first | exact ⟨rfl, rfl⟩ | exact ⟨by simp, rfl⟩

theorem ado_o_mov_w (off : Int) (h : ¬ off = 0) (h8 : ¬ off = 8) (h16 : ¬ off = 16) (h32 : ¬ off = 32) (a b : BitVec 64) (w : World) : Calls Try.prog 10 #[.int .u8 176, .bool true, .int .i16 off, .int .u64 (N a), .int .u64 (N b)] w fun e w' => e = .returned (.tuple #[.int .u64 (N (Alu.val (Alu.go (176) true (off) a b))), .int .i64 (Alu.err (Alu.go (176) true (off) a b))]) ∧ w = w' := by
  rw [Alu.go_mov_off a b true off h h8 h16 (fun q => h32 q.1)]; simp only [Alu.val_some, Alu.err_some, Alu.val_none, Alu.err_none]
  have b0 : (off == 0) = false := by simpa using h
  have d0 : (off != 0) = true := by simpa using h
  have b8 : (off == 8) = false := by simpa using h8
  have d8 : (off != 8) = true := by simpa using h8
  have b16 : (off == 16) = false := by simpa using h16
  have d16 : (off != 16) = true := by simpa using h16
  have b32 : (off == 32) = false := by simpa using h32
  have d32 : (off != 32) = true := by simpa using h32
  go_enter Try.func10, Try.ntmps10
  go_wp2_with (first | (go_at_call 17; (with_reducible refine (simple_mov _ _ _).mono ?_); rintro e w1 ⟨rfl, rfl⟩))
  go_ret2
  first | exact ⟨rfl, rfl⟩ | exact ⟨by simp, rfl⟩

theorem ado_o_mov_n (off : Int) (h : ¬ off = 0) (h8 : ¬ off = 8) (h16 : ¬ off = 16) (a b : BitVec 64) (w : World) : Calls Try.prog 10 #[.int .u8 176, .bool false, .int .i16 off, .int .u64 (N a), .int .u64 (N b)] w fun e w' => e = .returned (.tuple #[.int .u64 (N (Alu.val (Alu.go (176) false (off) a b))), .int .i64 (Alu.err (Alu.go (176) false (off) a b))]) ∧ w = w' := by
  rw [Alu.go_mov_off a b false off h h8 h16 (fun q => nomatch q.2)]; simp only [Alu.val_some, Alu.err_some, Alu.val_none, Alu.err_none]
  have b0 : (off == 0) = false := by simpa using h
  have d0 : (off != 0) = true := by simpa using h
  have b8 : (off == 8) = false := by simpa using h8
  have d8 : (off != 8) = true := by simpa using h8
  have b16 : (off == 16) = false := by simpa using h16
  have d16 : (off != 16) = true := by simpa using h16
  cases h32 : (off == 32)
  all_goals
    go_enter Try.func10, Try.ntmps10
    go_wp2_with (first | (go_at_call 17; (with_reducible refine (simple_mov _ _ _).mono ?_); rintro e w1 ⟨rfl, rfl⟩))
    go_ret2
    first | exact ⟨rfl, rfl⟩ | exact ⟨by simp, rfl⟩

theorem ado_w_div (a b : BitVec 64) (w : World) : Calls Try.prog 10 #[.int .u8 48, .bool true, .int .i16 0, .int .u64 (N a), .int .u64 (N b)] w fun e w' => e = .returned (.tuple #[.int .u64 (N (Alu.val (Alu.go (48) true (0) a b))), .int .i64 (Alu.err (Alu.go (48) true (0) a b))]) ∧ w = w' := by
  rw [Alu.wide_div a b]; simp only [Alu.val_some, Alu.err_some, Alu.val_none, Alu.err_none]
  go_enter Try.func10, Try.ntmps10
  go_wp2_with (first | (go_at_call 17; (with_reducible refine (simple_else _ (by first | assumption | decide) (by first | assumption | decide) (by first | assumption | decide) (by first | assumption | decide) (by first | assumption | decide) (by first | assumption | decide) (by first | assumption | decide) (by first | assumption | decide) _ _ _).mono ?_); rintro e w1 ⟨rfl, rfl⟩) | (go_at_call 18; (with_reducible refine (moved_else _ (by first | assumption | decide) (by first | assumption | decide) (by first | assumption | decide) _ _ _ _).mono ?_); rintro e w1 ⟨rfl, rfl⟩) | (go_at_call 19; (with_reducible refine (divided_tff _ _ _).mono ?_); rintro e w1 ⟨rfl, rfl⟩))
  go_ret2
  first | exact ⟨rfl, rfl⟩ | exact ⟨by simp, rfl⟩

theorem ado_w_sdiv (a b : BitVec 64) (w : World) : Calls Try.prog 10 #[.int .u8 48, .bool true, .int .i16 1, .int .u64 (N a), .int .u64 (N b)] w fun e w' => e = .returned (.tuple #[.int .u64 (N (Alu.val (Alu.go (48) true (1) a b))), .int .i64 (Alu.err (Alu.go (48) true (1) a b))]) ∧ w = w' := by
  rw [Alu.wide_sdiv a b]; simp only [Alu.val_some, Alu.err_some, Alu.val_none, Alu.err_none]
  go_enter Try.func10, Try.ntmps10
  go_wp2_with (first | (go_at_call 17; (with_reducible refine (simple_else _ (by first | assumption | decide) (by first | assumption | decide) (by first | assumption | decide) (by first | assumption | decide) (by first | assumption | decide) (by first | assumption | decide) (by first | assumption | decide) (by first | assumption | decide) _ _ _).mono ?_); rintro e w1 ⟨rfl, rfl⟩) | (go_at_call 18; (with_reducible refine (moved_else _ (by first | assumption | decide) (by first | assumption | decide) (by first | assumption | decide) _ _ _ _).mono ?_); rintro e w1 ⟨rfl, rfl⟩) | (go_at_call 19; (with_reducible refine (divided_ttf _ _ _).mono ?_); rintro e w1 ⟨rfl, rfl⟩))
  go_ret2
  first | exact ⟨rfl, rfl⟩ | exact ⟨by simp, rfl⟩

theorem ado_n_div (a b : BitVec 64) (w : World) : Calls Try.prog 10 #[.int .u8 48, .bool false, .int .i16 0, .int .u64 (N a), .int .u64 (N b)] w fun e w' => e = .returned (.tuple #[.int .u64 (N (Alu.val (Alu.go (48) false (0) a b))), .int .i64 (Alu.err (Alu.go (48) false (0) a b))]) ∧ w = w' := by
  rw [Alu.nn_div a b]; simp only [Alu.val_some, Alu.err_some, Alu.val_none, Alu.err_none]
  go_enter Try.func10, Try.ntmps10
  go_wp2_with (first | (go_at_call 17; (with_reducible refine (simple_else _ (by first | assumption | decide) (by first | assumption | decide) (by first | assumption | decide) (by first | assumption | decide) (by first | assumption | decide) (by first | assumption | decide) (by first | assumption | decide) (by first | assumption | decide) _ _ _).mono ?_); rintro e w1 ⟨rfl, rfl⟩) | (go_at_call 18; (with_reducible refine (moved_else _ (by first | assumption | decide) (by first | assumption | decide) (by first | assumption | decide) _ _ _ _).mono ?_); rintro e w1 ⟨rfl, rfl⟩) | (go_at_call 19; (with_reducible refine (divided_fff _ _ _).mono ?_); rintro e w1 ⟨rfl, rfl⟩))
  go_ret2
  first | exact ⟨rfl, rfl⟩ | exact ⟨by simp, rfl⟩

theorem ado_n_sdiv (a b : BitVec 64) (w : World) : Calls Try.prog 10 #[.int .u8 48, .bool false, .int .i16 1, .int .u64 (N a), .int .u64 (N b)] w fun e w' => e = .returned (.tuple #[.int .u64 (N (Alu.val (Alu.go (48) false (1) a b))), .int .i64 (Alu.err (Alu.go (48) false (1) a b))]) ∧ w = w' := by
  rw [Alu.nn_sdiv a b]; simp only [Alu.val_some, Alu.err_some, Alu.val_none, Alu.err_none]
  go_enter Try.func10, Try.ntmps10
  go_wp2_with (first | (go_at_call 17; (with_reducible refine (simple_else _ (by first | assumption | decide) (by first | assumption | decide) (by first | assumption | decide) (by first | assumption | decide) (by first | assumption | decide) (by first | assumption | decide) (by first | assumption | decide) (by first | assumption | decide) _ _ _).mono ?_); rintro e w1 ⟨rfl, rfl⟩) | (go_at_call 18; (with_reducible refine (moved_else _ (by first | assumption | decide) (by first | assumption | decide) (by first | assumption | decide) _ _ _ _).mono ?_); rintro e w1 ⟨rfl, rfl⟩) | (go_at_call 19; (with_reducible refine (divided_ftf _ _ _).mono ?_); rintro e w1 ⟨rfl, rfl⟩))
  go_ret2
  first | exact ⟨rfl, rfl⟩ | exact ⟨by simp, rfl⟩

theorem ado_o_div (wd : Bool) (off : Int) (h : ¬ off = 0) (h1 : ¬ off = 1) (a b : BitVec 64) (w : World) : Calls Try.prog 10 #[.int .u8 48, .bool wd, .int .i16 off, .int .u64 (N a), .int .u64 (N b)] w fun e w' => e = .returned (.tuple #[.int .u64 (N (Alu.val (Alu.go (48) wd (off) a b))), .int .i64 (Alu.err (Alu.go (48) wd (off) a b))]) ∧ w = w' := by
  rw [Alu.go_div_off a b wd off h h1]; simp only [Alu.val_some, Alu.err_some, Alu.val_none, Alu.err_none]
  have b0 : (off == 0) = false := by simpa using h
  have d0 : (off != 0) = true := by simpa using h
  have b1 : (off == 1) = false := by simpa using h1
  have d1 : (off != 1) = true := by simpa using h1
  cases wd
  all_goals
    go_enter Try.func10, Try.ntmps10
    go_wp2_with (first | (go_at_call 17; (with_reducible refine (simple_else _ (by first | assumption | decide) (by first | assumption | decide) (by first | assumption | decide) (by first | assumption | decide) (by first | assumption | decide) (by first | assumption | decide) (by first | assumption | decide) (by first | assumption | decide) _ _ _).mono ?_); rintro e w1 ⟨rfl, rfl⟩) | (go_at_call 18; (with_reducible refine (moved_else _ (by first | assumption | decide) (by first | assumption | decide) (by first | assumption | decide) _ _ _ _).mono ?_); rintro e w1 ⟨rfl, rfl⟩))
    go_ret2
    first | exact ⟨rfl, rfl⟩ | exact ⟨by simp, rfl⟩

theorem ado_w_mod (a b : BitVec 64) (w : World) : Calls Try.prog 10 #[.int .u8 144, .bool true, .int .i16 0, .int .u64 (N a), .int .u64 (N b)] w fun e w' => e = .returned (.tuple #[.int .u64 (N (Alu.val (Alu.go (144) true (0) a b))), .int .i64 (Alu.err (Alu.go (144) true (0) a b))]) ∧ w = w' := by
  rw [Alu.wide_mod a b]; simp only [Alu.val_some, Alu.err_some, Alu.val_none, Alu.err_none]
  go_enter Try.func10, Try.ntmps10
  go_wp2_with (first | (go_at_call 17; (with_reducible refine (simple_else _ (by first | assumption | decide) (by first | assumption | decide) (by first | assumption | decide) (by first | assumption | decide) (by first | assumption | decide) (by first | assumption | decide) (by first | assumption | decide) (by first | assumption | decide) _ _ _).mono ?_); rintro e w1 ⟨rfl, rfl⟩) | (go_at_call 18; (with_reducible refine (moved_else _ (by first | assumption | decide) (by first | assumption | decide) (by first | assumption | decide) _ _ _ _).mono ?_); rintro e w1 ⟨rfl, rfl⟩) | (go_at_call 19; (with_reducible refine (divided_tft _ _ _).mono ?_); rintro e w1 ⟨rfl, rfl⟩))
  go_ret2
  first | exact ⟨rfl, rfl⟩ | exact ⟨by simp, rfl⟩

theorem ado_w_smod (a b : BitVec 64) (w : World) : Calls Try.prog 10 #[.int .u8 144, .bool true, .int .i16 1, .int .u64 (N a), .int .u64 (N b)] w fun e w' => e = .returned (.tuple #[.int .u64 (N (Alu.val (Alu.go (144) true (1) a b))), .int .i64 (Alu.err (Alu.go (144) true (1) a b))]) ∧ w = w' := by
  rw [Alu.wide_smod a b]; simp only [Alu.val_some, Alu.err_some, Alu.val_none, Alu.err_none]
  go_enter Try.func10, Try.ntmps10
  go_wp2_with (first | (go_at_call 17; (with_reducible refine (simple_else _ (by first | assumption | decide) (by first | assumption | decide) (by first | assumption | decide) (by first | assumption | decide) (by first | assumption | decide) (by first | assumption | decide) (by first | assumption | decide) (by first | assumption | decide) _ _ _).mono ?_); rintro e w1 ⟨rfl, rfl⟩) | (go_at_call 18; (with_reducible refine (moved_else _ (by first | assumption | decide) (by first | assumption | decide) (by first | assumption | decide) _ _ _ _).mono ?_); rintro e w1 ⟨rfl, rfl⟩) | (go_at_call 19; (with_reducible refine (divided_ttt _ _ _).mono ?_); rintro e w1 ⟨rfl, rfl⟩))
  go_ret2
  first | exact ⟨rfl, rfl⟩ | exact ⟨by simp, rfl⟩

theorem ado_n_mod (a b : BitVec 64) (w : World) : Calls Try.prog 10 #[.int .u8 144, .bool false, .int .i16 0, .int .u64 (N a), .int .u64 (N b)] w fun e w' => e = .returned (.tuple #[.int .u64 (N (Alu.val (Alu.go (144) false (0) a b))), .int .i64 (Alu.err (Alu.go (144) false (0) a b))]) ∧ w = w' := by
  rw [Alu.nn_mod a b]; simp only [Alu.val_some, Alu.err_some, Alu.val_none, Alu.err_none]
  go_enter Try.func10, Try.ntmps10
  go_wp2_with (first | (go_at_call 17; (with_reducible refine (simple_else _ (by first | assumption | decide) (by first | assumption | decide) (by first | assumption | decide) (by first | assumption | decide) (by first | assumption | decide) (by first | assumption | decide) (by first | assumption | decide) (by first | assumption | decide) _ _ _).mono ?_); rintro e w1 ⟨rfl, rfl⟩) | (go_at_call 18; (with_reducible refine (moved_else _ (by first | assumption | decide) (by first | assumption | decide) (by first | assumption | decide) _ _ _ _).mono ?_); rintro e w1 ⟨rfl, rfl⟩) | (go_at_call 19; (with_reducible refine (divided_fft _ _ _).mono ?_); rintro e w1 ⟨rfl, rfl⟩))
  go_ret2
  first | exact ⟨rfl, rfl⟩ | exact ⟨by simp, rfl⟩

theorem ado_n_smod (a b : BitVec 64) (w : World) : Calls Try.prog 10 #[.int .u8 144, .bool false, .int .i16 1, .int .u64 (N a), .int .u64 (N b)] w fun e w' => e = .returned (.tuple #[.int .u64 (N (Alu.val (Alu.go (144) false (1) a b))), .int .i64 (Alu.err (Alu.go (144) false (1) a b))]) ∧ w = w' := by
  rw [Alu.nn_smod a b]; simp only [Alu.val_some, Alu.err_some, Alu.val_none, Alu.err_none]
  go_enter Try.func10, Try.ntmps10
  go_wp2_with (first | (go_at_call 17; (with_reducible refine (simple_else _ (by first | assumption | decide) (by first | assumption | decide) (by first | assumption | decide) (by first | assumption | decide) (by first | assumption | decide) (by first | assumption | decide) (by first | assumption | decide) (by first | assumption | decide) _ _ _).mono ?_); rintro e w1 ⟨rfl, rfl⟩) | (go_at_call 18; (with_reducible refine (moved_else _ (by first | assumption | decide) (by first | assumption | decide) (by first | assumption | decide) _ _ _ _).mono ?_); rintro e w1 ⟨rfl, rfl⟩) | (go_at_call 19; (with_reducible refine (divided_ftt _ _ _).mono ?_); rintro e w1 ⟨rfl, rfl⟩))
  go_ret2
  first | exact ⟨rfl, rfl⟩ | exact ⟨by simp, rfl⟩

theorem ado_o_mod (wd : Bool) (off : Int) (h : ¬ off = 0) (h1 : ¬ off = 1) (a b : BitVec 64) (w : World) : Calls Try.prog 10 #[.int .u8 144, .bool wd, .int .i16 off, .int .u64 (N a), .int .u64 (N b)] w fun e w' => e = .returned (.tuple #[.int .u64 (N (Alu.val (Alu.go (144) wd (off) a b))), .int .i64 (Alu.err (Alu.go (144) wd (off) a b))]) ∧ w = w' := by
  rw [Alu.go_mod_off a b wd off h h1]; simp only [Alu.val_some, Alu.err_some, Alu.val_none, Alu.err_none]
  have b0 : (off == 0) = false := by simpa using h
  have d0 : (off != 0) = true := by simpa using h
  have b1 : (off == 1) = false := by simpa using h1
  have d1 : (off != 1) = true := by simpa using h1
  cases wd
  all_goals
    go_enter Try.func10, Try.ntmps10
    go_wp2_with (first | (go_at_call 17; (with_reducible refine (simple_else _ (by first | assumption | decide) (by first | assumption | decide) (by first | assumption | decide) (by first | assumption | decide) (by first | assumption | decide) (by first | assumption | decide) (by first | assumption | decide) (by first | assumption | decide) _ _ _).mono ?_); rintro e w1 ⟨rfl, rfl⟩) | (go_at_call 18; (with_reducible refine (moved_else _ (by first | assumption | decide) (by first | assumption | decide) (by first | assumption | decide) _ _ _ _).mono ?_); rintro e w1 ⟨rfl, rfl⟩))
    go_ret2
    first | exact ⟨rfl, rfl⟩ | exact ⟨by simp, rfl⟩

theorem ado_else (op : Int) (wd : Bool) (off : Int) (n0 : ¬ op = 0) (n16 : ¬ op = 16) (n32 : ¬ op = 32) (n64 : ¬ op = 64) (n80 : ¬ op = 80) (n160 : ¬ op = 160) (n128 : ¬ op = 128) (n176 : ¬ op = 176) (n96 : ¬ op = 96) (n112 : ¬ op = 112) (n192 : ¬ op = 192) (n48 : ¬ op = 48) (n144 : ¬ op = 144) (a b : BitVec 64) (w : World) : Calls Try.prog 10 #[.int .u8 op, .bool wd, .int .i16 off, .int .u64 (N a), .int .u64 (N b)] w fun e w' => e = .returned (.tuple #[.int .u64 (N (Alu.val (Alu.go (op) wd (off) a b))), .int .i64 (Alu.err (Alu.go (op) wd (off) a b))]) ∧ w = w' := by
  rw [Alu.go_else a b op wd off n0 n16 n32 n64 n80 n160 n128 n176 n96 n112 n192 n48 n144]; simp only [Alu.val_some, Alu.err_some, Alu.val_none, Alu.err_none]
  cases wd
  all_goals
    go_enter Try.func10, Try.ntmps10
    go_wp2_with (first | (go_at_call 17; (with_reducible refine (simple_else _ (by first | assumption | decide) (by first | assumption | decide) (by first | assumption | decide) (by first | assumption | decide) (by first | assumption | decide) (by first | assumption | decide) (by first | assumption | decide) (by first | assumption | decide) _ _ _).mono ?_); rintro e w1 ⟨rfl, rfl⟩) | (go_at_call 18; (with_reducible refine (moved_else _ (by first | assumption | decide) (by first | assumption | decide) (by first | assumption | decide) _ _ _ _).mono ?_); rintro e w1 ⟨rfl, rfl⟩))
    go_ret2
    first | exact ⟨rfl, rfl⟩ | exact ⟨by simp, rfl⟩

end Hk
