/- The reference of conditions: Is; memory is as it was. No condition but those in each statement. -/
import Derived.Test.YtijlcdgjeonaeaaProg
import Derived.Test.YtijlcdgjeonaeaaWd
import Derived.Test.YtijlcdgjeonaeaaCondDo
import Derived.Test.YtijlcdgjeonaeaaRb1
import Derived.Test.YtijlcdgjeonaeaaRc3
namespace Hk
open Go Go.RowKit Go.Proofs
set_option linter.unusedSimpArgs false
set_option linter.unusedVariables false
set_option maxRecDepth 100000
attribute [go_sem] Cond.val_some Cond.err_some Cond.val_none Cond.err_none
@[go_sem ↓ high] theorem op_flip (x : BitVec 64) : Op.intArith .add .u64 (N x) 9223372036854775808 = pure (.int .u64 (N (Cond.flip x))) := by
  rw [show (9223372036854775808 : Int) = N 9223372036854775808#64 from rfl]; rw [Cond.flip_eq]; exact op_add x _
@[go_sem ↓ high] theorem op_flip' (x : BitVec 64) : Op.intArith .add .u64 (N x) (N 9223372036854775808#64) = pure (.int .u64 (N (Cond.flip x))) := by rw [Cond.flip_eq]; exact op_add x _

theorem ris_0t (a b : BitVec 64) (w : World) : Calls Try.prog 10 #[.int .u8 0, .bool (true), .int .u64 (N a), .int .u64 (N b)] w fun e w' => e = .returned (.tuple #[.bool (Cond.val (Cond.is 0 true a b)), .int .i64 (Cond.err (Cond.is 0 true a b))]) ∧ w = w' := by
  rw [Cond.q_0t a b]
  simp only [Cond.val_some, Cond.err_some, Cond.val_none, Cond.err_none]
  go_enter Try.func10, Try.ntmps10
  go_wp2_with (first | (go_at_call 20; (with_reducible refine (rsign_c _ _ _).mono ?_); rintro e w1 ⟨rfl, rfl⟩))
  go_ret2
  exact ⟨rfl, rfl⟩

theorem ris_16t (a b : BitVec 64) (w : World) : Calls Try.prog 10 #[.int .u8 16, .bool (true), .int .u64 (N a), .int .u64 (N b)] w fun e w' => e = .returned (.tuple #[.bool (Cond.val (Cond.is 16 true a b)), .int .i64 (Cond.err (Cond.is 16 true a b))]) ∧ w = w' := by
  rw [Cond.q_16t a b]
  simp only [Cond.val_some, Cond.err_some, Cond.val_none, Cond.err_none]
  go_enter Try.func10, Try.ntmps10
  go_wp2_with (first | (go_at_call 20; (with_reducible refine (rsign_c _ _ _).mono ?_); rintro e w1 ⟨rfl, rfl⟩))
  go_ret2
  exact ⟨rfl, rfl⟩

theorem ris_80t (a b : BitVec 64) (w : World) : Calls Try.prog 10 #[.int .u8 80, .bool (true), .int .u64 (N a), .int .u64 (N b)] w fun e w' => e = .returned (.tuple #[.bool (Cond.val (Cond.is 80 true a b)), .int .i64 (Cond.err (Cond.is 80 true a b))]) ∧ w = w' := by
  rw [Cond.q_80t a b]
  simp only [Cond.val_some, Cond.err_some, Cond.val_none, Cond.err_none]
  go_enter Try.func10, Try.ntmps10
  go_wp2_with (first | (go_at_call 20; (with_reducible refine (rsign_c _ _ _).mono ?_); rintro e w1 ⟨rfl, rfl⟩))
  go_ret2
  exact ⟨rfl, rfl⟩

theorem ris_32t (a b : BitVec 64) (w : World) : Calls Try.prog 10 #[.int .u8 32, .bool (true), .int .u64 (N a), .int .u64 (N b)] w fun e w' => e = .returned (.tuple #[.bool (Cond.val (Cond.is 32 true a b)), .int .i64 (Cond.err (Cond.is 32 true a b))]) ∧ w = w' := by
  rw [Cond.q_32t a b]
  simp only [Cond.val_some, Cond.err_some, Cond.val_none, Cond.err_none]
  go_enter Try.func10, Try.ntmps10
  go_wp2_with (first | (go_at_call 20; (with_reducible refine (rsign_c _ _ _).mono ?_); rintro e w1 ⟨rfl, rfl⟩))
  go_ret2
  exact ⟨rfl, rfl⟩

theorem ris_48t (a b : BitVec 64) (w : World) : Calls Try.prog 10 #[.int .u8 48, .bool (true), .int .u64 (N a), .int .u64 (N b)] w fun e w' => e = .returned (.tuple #[.bool (Cond.val (Cond.is 48 true a b)), .int .i64 (Cond.err (Cond.is 48 true a b))]) ∧ w = w' := by
  rw [Cond.q_48t a b]
  simp only [Cond.val_some, Cond.err_some, Cond.val_none, Cond.err_none]
  go_enter Try.func10, Try.ntmps10
  go_wp2_with (first | (go_at_call 20; (with_reducible refine (rsign_c _ _ _).mono ?_); rintro e w1 ⟨rfl, rfl⟩))
  go_ret2
  exact ⟨rfl, rfl⟩

theorem ris_160t (a b : BitVec 64) (w : World) : Calls Try.prog 10 #[.int .u8 160, .bool (true), .int .u64 (N a), .int .u64 (N b)] w fun e w' => e = .returned (.tuple #[.bool (Cond.val (Cond.is 160 true a b)), .int .i64 (Cond.err (Cond.is 160 true a b))]) ∧ w = w' := by
  rw [Cond.q_160t a b]
  simp only [Cond.val_some, Cond.err_some, Cond.val_none, Cond.err_none]
  go_enter Try.func10, Try.ntmps10
  go_wp2_with (first | (go_at_call 20; (with_reducible refine (rsign_c _ _ _).mono ?_); rintro e w1 ⟨rfl, rfl⟩))
  go_ret2
  exact ⟨rfl, rfl⟩

theorem ris_176t (a b : BitVec 64) (w : World) : Calls Try.prog 10 #[.int .u8 176, .bool (true), .int .u64 (N a), .int .u64 (N b)] w fun e w' => e = .returned (.tuple #[.bool (Cond.val (Cond.is 176 true a b)), .int .i64 (Cond.err (Cond.is 176 true a b))]) ∧ w = w' := by
  rw [Cond.q_176t a b]
  simp only [Cond.val_some, Cond.err_some, Cond.val_none, Cond.err_none]
  go_enter Try.func10, Try.ntmps10
  go_wp2_with (first | (go_at_call 20; (with_reducible refine (rsign_c _ _ _).mono ?_); rintro e w1 ⟨rfl, rfl⟩))
  go_ret2
  exact ⟨rfl, rfl⟩

theorem ris_96t (a b : BitVec 64) (w : World) : Calls Try.prog 10 #[.int .u8 96, .bool (true), .int .u64 (N a), .int .u64 (N b)] w fun e w' => e = .returned (.tuple #[.bool (Cond.val (Cond.is 96 true a b)), .int .i64 (Cond.err (Cond.is 96 true a b))]) ∧ w = w' := by
  rw [Cond.q_96t a b]
  simp only [Cond.val_some, Cond.err_some, Cond.val_none, Cond.err_none]
  go_enter Try.func10, Try.ntmps10
  go_wp2_with (first | (go_at_call 20; (with_reducible refine (rsign_c _ _ _).mono ?_); rintro e w1 ⟨rfl, rfl⟩))
  go_ret2
  exact ⟨rfl, rfl⟩

theorem ris_112t (a b : BitVec 64) (w : World) : Calls Try.prog 10 #[.int .u8 112, .bool (true), .int .u64 (N a), .int .u64 (N b)] w fun e w' => e = .returned (.tuple #[.bool (Cond.val (Cond.is 112 true a b)), .int .i64 (Cond.err (Cond.is 112 true a b))]) ∧ w = w' := by
  rw [Cond.q_112t a b]
  simp only [Cond.val_some, Cond.err_some, Cond.val_none, Cond.err_none]
  go_enter Try.func10, Try.ntmps10
  go_wp2_with (first | (go_at_call 20; (with_reducible refine (rsign_c _ _ _).mono ?_); rintro e w1 ⟨rfl, rfl⟩))
  go_ret2
  exact ⟨rfl, rfl⟩

theorem ris_192t (a b : BitVec 64) (w : World) : Calls Try.prog 10 #[.int .u8 192, .bool (true), .int .u64 (N a), .int .u64 (N b)] w fun e w' => e = .returned (.tuple #[.bool (Cond.val (Cond.is 192 true a b)), .int .i64 (Cond.err (Cond.is 192 true a b))]) ∧ w = w' := by
  rw [Cond.q_192t a b]
  simp only [Cond.val_some, Cond.err_some, Cond.val_none, Cond.err_none]
  go_enter Try.func10, Try.ntmps10
  go_wp2_with (first | (go_at_call 20; (with_reducible refine (rsign_c _ _ _).mono ?_); rintro e w1 ⟨rfl, rfl⟩))
  go_ret2
  exact ⟨rfl, rfl⟩

theorem ris_208t (a b : BitVec 64) (w : World) : Calls Try.prog 10 #[.int .u8 208, .bool (true), .int .u64 (N a), .int .u64 (N b)] w fun e w' => e = .returned (.tuple #[.bool (Cond.val (Cond.is 208 true a b)), .int .i64 (Cond.err (Cond.is 208 true a b))]) ∧ w = w' := by
  rw [Cond.q_208t a b]
  simp only [Cond.val_some, Cond.err_some, Cond.val_none, Cond.err_none]
  go_enter Try.func10, Try.ntmps10
  go_wp2_with (first | (go_at_call 20; (with_reducible refine (rsign_c _ _ _).mono ?_); rintro e w1 ⟨rfl, rfl⟩))
  go_ret2
  exact ⟨rfl, rfl⟩

theorem ris_64t (a b : BitVec 64) (w : World) : Calls Try.prog 10 #[.int .u8 64, .bool (true), .int .u64 (N a), .int .u64 (N b)] w fun e w' => e = .returned (.tuple #[.bool (Cond.val (Cond.is 64 true a b)), .int .i64 (Cond.err (Cond.is 64 true a b))]) ∧ w = w' := by
  rw [Cond.q_64t a b]
  simp only [Cond.val_some, Cond.err_some, Cond.val_none, Cond.err_none]
  go_enter Try.func10, Try.ntmps10
  go_wp2_with (first | (go_at_call 20; (with_reducible refine (rsign_c _ _ _).mono ?_); rintro e w1 ⟨rfl, rfl⟩))
  go_ret2
  exact ⟨rfl, rfl⟩

theorem ris_elset (op : Int) (n0 : ¬ op = 0) (n16 : ¬ op = 16) (n32 : ¬ op = 32) (n48 : ¬ op = 48) (n64 : ¬ op = 64) (n80 : ¬ op = 80) (n96 : ¬ op = 96) (n112 : ¬ op = 112) (n160 : ¬ op = 160) (n176 : ¬ op = 176) (n192 : ¬ op = 192) (n208 : ¬ op = 208) (a b : BitVec 64) (w : World) : Calls Try.prog 10 #[.int .u8 op, .bool (true), .int .u64 (N a), .int .u64 (N b)] w fun e w' => e = .returned (.tuple #[.bool (Cond.val (Cond.is op true a b)), .int .i64 (Cond.err (Cond.is op true a b))]) ∧ w = w' := by
  rw [Cond.is_else op true a b n0 n16 n32 n48 n64 n80 n96 n112 n160 n176 n192 n208]
  simp only [Cond.val_some, Cond.err_some, Cond.val_none, Cond.err_none]
  go_enter Try.func10, Try.ntmps10
  go_wp2_with (first | (go_at_call 20; (with_reducible refine (rsign_c _ _ _).mono ?_); rintro e w1 ⟨rfl, rfl⟩))
  go_ret2
  exact ⟨rfl, rfl⟩

theorem ris_0f (a b : BitVec 64) (w : World) : Calls Try.prog 10 #[.int .u8 0, .bool (false), .int .u64 (N a), .int .u64 (N b)] w fun e w' => e = .returned (.tuple #[.bool (Cond.val (Cond.is 0 false a b)), .int .i64 (Cond.err (Cond.is 0 false a b))]) ∧ w = w' := by
  rw [Cond.q_0f a b]
  simp only [Cond.val_some, Cond.err_some, Cond.val_none, Cond.err_none]
  go_enter Try.func10, Try.ntmps10
  go_wp2_with (first | (go_at_call 20; (with_reducible refine (rsign_c _ _ _).mono ?_); rintro e w1 ⟨rfl, rfl⟩))
  go_ret2
  exact ⟨rfl, rfl⟩

theorem ris_16f (a b : BitVec 64) (w : World) : Calls Try.prog 10 #[.int .u8 16, .bool (false), .int .u64 (N a), .int .u64 (N b)] w fun e w' => e = .returned (.tuple #[.bool (Cond.val (Cond.is 16 false a b)), .int .i64 (Cond.err (Cond.is 16 false a b))]) ∧ w = w' := by
  rw [Cond.q_16f a b]
  simp only [Cond.val_some, Cond.err_some, Cond.val_none, Cond.err_none]
  go_enter Try.func10, Try.ntmps10
  go_wp2_with (first | (go_at_call 20; (with_reducible refine (rsign_c _ _ _).mono ?_); rintro e w1 ⟨rfl, rfl⟩))
  go_ret2
  exact ⟨rfl, rfl⟩

theorem ris_80f (a b : BitVec 64) (w : World) : Calls Try.prog 10 #[.int .u8 80, .bool (false), .int .u64 (N a), .int .u64 (N b)] w fun e w' => e = .returned (.tuple #[.bool (Cond.val (Cond.is 80 false a b)), .int .i64 (Cond.err (Cond.is 80 false a b))]) ∧ w = w' := by
  rw [Cond.q_80f a b]
  simp only [Cond.val_some, Cond.err_some, Cond.val_none, Cond.err_none]
  go_enter Try.func10, Try.ntmps10
  go_wp2_with (first | (go_at_call 20; (with_reducible refine (rsign_c _ _ _).mono ?_); rintro e w1 ⟨rfl, rfl⟩))
  go_ret2
  exact ⟨rfl, rfl⟩

theorem ris_32f (a b : BitVec 64) (w : World) : Calls Try.prog 10 #[.int .u8 32, .bool (false), .int .u64 (N a), .int .u64 (N b)] w fun e w' => e = .returned (.tuple #[.bool (Cond.val (Cond.is 32 false a b)), .int .i64 (Cond.err (Cond.is 32 false a b))]) ∧ w = w' := by
  rw [Cond.q_32f a b]
  simp only [Cond.val_some, Cond.err_some, Cond.val_none, Cond.err_none]
  go_enter Try.func10, Try.ntmps10
  go_wp2_with (first | (go_at_call 20; (with_reducible refine (rsign_c _ _ _).mono ?_); rintro e w1 ⟨rfl, rfl⟩))
  go_ret2
  exact ⟨rfl, rfl⟩

theorem ris_48f (a b : BitVec 64) (w : World) : Calls Try.prog 10 #[.int .u8 48, .bool (false), .int .u64 (N a), .int .u64 (N b)] w fun e w' => e = .returned (.tuple #[.bool (Cond.val (Cond.is 48 false a b)), .int .i64 (Cond.err (Cond.is 48 false a b))]) ∧ w = w' := by
  rw [Cond.q_48f a b]
  simp only [Cond.val_some, Cond.err_some, Cond.val_none, Cond.err_none]
  go_enter Try.func10, Try.ntmps10
  go_wp2_with (first | (go_at_call 20; (with_reducible refine (rsign_c _ _ _).mono ?_); rintro e w1 ⟨rfl, rfl⟩))
  go_ret2
  exact ⟨rfl, rfl⟩

theorem ris_160f (a b : BitVec 64) (w : World) : Calls Try.prog 10 #[.int .u8 160, .bool (false), .int .u64 (N a), .int .u64 (N b)] w fun e w' => e = .returned (.tuple #[.bool (Cond.val (Cond.is 160 false a b)), .int .i64 (Cond.err (Cond.is 160 false a b))]) ∧ w = w' := by
  rw [Cond.q_160f a b]
  simp only [Cond.val_some, Cond.err_some, Cond.val_none, Cond.err_none]
  go_enter Try.func10, Try.ntmps10
  go_wp2_with (first | (go_at_call 20; (with_reducible refine (rsign_c _ _ _).mono ?_); rintro e w1 ⟨rfl, rfl⟩))
  go_ret2
  exact ⟨rfl, rfl⟩

theorem ris_176f (a b : BitVec 64) (w : World) : Calls Try.prog 10 #[.int .u8 176, .bool (false), .int .u64 (N a), .int .u64 (N b)] w fun e w' => e = .returned (.tuple #[.bool (Cond.val (Cond.is 176 false a b)), .int .i64 (Cond.err (Cond.is 176 false a b))]) ∧ w = w' := by
  rw [Cond.q_176f a b]
  simp only [Cond.val_some, Cond.err_some, Cond.val_none, Cond.err_none]
  go_enter Try.func10, Try.ntmps10
  go_wp2_with (first | (go_at_call 20; (with_reducible refine (rsign_c _ _ _).mono ?_); rintro e w1 ⟨rfl, rfl⟩))
  go_ret2
  exact ⟨rfl, rfl⟩

theorem ris_96f (a b : BitVec 64) (w : World) : Calls Try.prog 10 #[.int .u8 96, .bool (false), .int .u64 (N a), .int .u64 (N b)] w fun e w' => e = .returned (.tuple #[.bool (Cond.val (Cond.is 96 false a b)), .int .i64 (Cond.err (Cond.is 96 false a b))]) ∧ w = w' := by
  rw [Cond.q_96f a b]
  simp only [Cond.val_some, Cond.err_some, Cond.val_none, Cond.err_none]
  go_enter Try.func10, Try.ntmps10
  go_wp2_with (first | (go_at_call 20; (with_reducible refine (rsign_c _ _ _).mono ?_); rintro e w1 ⟨rfl, rfl⟩))
  go_ret2
  exact ⟨rfl, rfl⟩

theorem ris_112f (a b : BitVec 64) (w : World) : Calls Try.prog 10 #[.int .u8 112, .bool (false), .int .u64 (N a), .int .u64 (N b)] w fun e w' => e = .returned (.tuple #[.bool (Cond.val (Cond.is 112 false a b)), .int .i64 (Cond.err (Cond.is 112 false a b))]) ∧ w = w' := by
  rw [Cond.q_112f a b]
  simp only [Cond.val_some, Cond.err_some, Cond.val_none, Cond.err_none]
  go_enter Try.func10, Try.ntmps10
  go_wp2_with (first | (go_at_call 20; (with_reducible refine (rsign_c _ _ _).mono ?_); rintro e w1 ⟨rfl, rfl⟩))
  go_ret2
  exact ⟨rfl, rfl⟩

theorem ris_192f (a b : BitVec 64) (w : World) : Calls Try.prog 10 #[.int .u8 192, .bool (false), .int .u64 (N a), .int .u64 (N b)] w fun e w' => e = .returned (.tuple #[.bool (Cond.val (Cond.is 192 false a b)), .int .i64 (Cond.err (Cond.is 192 false a b))]) ∧ w = w' := by
  rw [Cond.q_192f a b]
  simp only [Cond.val_some, Cond.err_some, Cond.val_none, Cond.err_none]
  go_enter Try.func10, Try.ntmps10
  go_wp2_with (first | (go_at_call 20; (with_reducible refine (rsign_c _ _ _).mono ?_); rintro e w1 ⟨rfl, rfl⟩))
  go_ret2
  exact ⟨rfl, rfl⟩

theorem ris_208f (a b : BitVec 64) (w : World) : Calls Try.prog 10 #[.int .u8 208, .bool (false), .int .u64 (N a), .int .u64 (N b)] w fun e w' => e = .returned (.tuple #[.bool (Cond.val (Cond.is 208 false a b)), .int .i64 (Cond.err (Cond.is 208 false a b))]) ∧ w = w' := by
  rw [Cond.q_208f a b]
  simp only [Cond.val_some, Cond.err_some, Cond.val_none, Cond.err_none]
  go_enter Try.func10, Try.ntmps10
  go_wp2_with (first | (go_at_call 20; (with_reducible refine (rsign_c _ _ _).mono ?_); rintro e w1 ⟨rfl, rfl⟩))
  go_ret2
  exact ⟨rfl, rfl⟩

theorem ris_64f (a b : BitVec 64) (w : World) : Calls Try.prog 10 #[.int .u8 64, .bool (false), .int .u64 (N a), .int .u64 (N b)] w fun e w' => e = .returned (.tuple #[.bool (Cond.val (Cond.is 64 false a b)), .int .i64 (Cond.err (Cond.is 64 false a b))]) ∧ w = w' := by
  rw [Cond.q_64f a b]
  simp only [Cond.val_some, Cond.err_some, Cond.val_none, Cond.err_none]
  go_enter Try.func10, Try.ntmps10
  go_wp2_with (first | (go_at_call 20; (with_reducible refine (rsign_c _ _ _).mono ?_); rintro e w1 ⟨rfl, rfl⟩))
  go_ret2
  exact ⟨rfl, rfl⟩

theorem ris_elsef (op : Int) (n0 : ¬ op = 0) (n16 : ¬ op = 16) (n32 : ¬ op = 32) (n48 : ¬ op = 48) (n64 : ¬ op = 64) (n80 : ¬ op = 80) (n96 : ¬ op = 96) (n112 : ¬ op = 112) (n160 : ¬ op = 160) (n176 : ¬ op = 176) (n192 : ¬ op = 192) (n208 : ¬ op = 208) (a b : BitVec 64) (w : World) : Calls Try.prog 10 #[.int .u8 op, .bool (false), .int .u64 (N a), .int .u64 (N b)] w fun e w' => e = .returned (.tuple #[.bool (Cond.val (Cond.is op false a b)), .int .i64 (Cond.err (Cond.is op false a b))]) ∧ w = w' := by
  rw [Cond.is_else op false a b n0 n16 n32 n48 n64 n80 n96 n112 n160 n176 n192 n208]
  simp only [Cond.val_some, Cond.err_some, Cond.val_none, Cond.err_none]
  go_enter Try.func10, Try.ntmps10
  go_wp2_with (first | (go_at_call 20; (with_reducible refine (rsign_c _ _ _).mono ?_); rintro e w1 ⟨rfl, rfl⟩))
  go_ret2
  exact ⟨rfl, rfl⟩

theorem ris_c (op : Int) (wd : Bool) (a b : BitVec 64) (w : World) : Calls Try.prog 10 #[.int .u8 op, .bool (wd), .int .u64 (N a), .int .u64 (N b)] w fun e w' => e = .returned (.tuple #[.bool (Cond.val (Cond.is op wd a b)), .int .i64 (Cond.err (Cond.is op wd a b))]) ∧ w = w' := by
  by_cases n0 : op = 0
  · subst n0; cases wd
    · exact ris_0f a b w
    · exact ris_0t a b w
  by_cases n16 : op = 16
  · subst n16; cases wd
    · exact ris_16f a b w
    · exact ris_16t a b w
  by_cases n32 : op = 32
  · subst n32; cases wd
    · exact ris_32f a b w
    · exact ris_32t a b w
  by_cases n48 : op = 48
  · subst n48; cases wd
    · exact ris_48f a b w
    · exact ris_48t a b w
  by_cases n64 : op = 64
  · subst n64; cases wd
    · exact ris_64f a b w
    · exact ris_64t a b w
  by_cases n80 : op = 80
  · subst n80; cases wd
    · exact ris_80f a b w
    · exact ris_80t a b w
  by_cases n96 : op = 96
  · subst n96; cases wd
    · exact ris_96f a b w
    · exact ris_96t a b w
  by_cases n112 : op = 112
  · subst n112; cases wd
    · exact ris_112f a b w
    · exact ris_112t a b w
  by_cases n160 : op = 160
  · subst n160; cases wd
    · exact ris_160f a b w
    · exact ris_160t a b w
  by_cases n176 : op = 176
  · subst n176; cases wd
    · exact ris_176f a b w
    · exact ris_176t a b w
  by_cases n192 : op = 192
  · subst n192; cases wd
    · exact ris_192f a b w
    · exact ris_192t a b w
  by_cases n208 : op = 208
  · subst n208; cases wd
    · exact ris_208f a b w
    · exact ris_208t a b w
  cases wd
  · exact ris_elsef op n0 n16 n32 n48 n64 n80 n96 n112 n160 n176 n192 n208 a b w
  · exact ris_elset op n0 n16 n32 n48 n64 n80 n96 n112 n160 n176 n192 n208 a b w

end Hk
