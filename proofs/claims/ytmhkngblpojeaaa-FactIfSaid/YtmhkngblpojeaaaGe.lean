/- The reference of conditions: Is; memory is as it was. No condition but those in each statement. The reference of conditions: Turned; old memory is as it was. No condition but those in each statement. -/
import Derived.Test.YtmhkngblpojeaaaProg
import Derived.Test.YtmhkngblpojeaaaGp
import Derived.Test.YtmhkngblpojeaaaGq
import Derived.Test.YtmhkngblpojeaaaGc
import Derived.LoopN
namespace Hk
open Go Go.RowKit Go.Proofs
set_option linter.unusedSimpArgs false
set_option linter.unusedVariables false
set_option maxRecDepth 100000
attribute [go_sem] Cond.val_some Cond.err_some Cond.val_none Cond.err_none
@[go_sem ↓ high] theorem op_flip (x : BitVec 64) : Op.intArith .add .u64 (N x) 9223372036854775808 = pure (.int .u64 (N (Cond.flip x))) := by
  rw [show (9223372036854775808 : Int) = N 9223372036854775808#64 from rfl]; rw [Cond.flip_eq]; exact op_add x _
@[go_sem ↓ high] theorem op_flip' (x : BitVec 64) : Op.intArith .add .u64 (N x) (N 9223372036854775808#64) = pure (.int .u64 (N (Cond.flip x))) := by rw [Cond.flip_eq]; exact op_add x _

theorem ris_0t (a b : BitVec 64) (w : World) : Calls Try.prog 37 #[.int .u8 0, .bool (true), .int .u64 (N a), .int .u64 (N b)] w fun e w' => e = .returned (.tuple #[.bool (Cond.val (Cond.is 0 true a b)), .int .i64 (Cond.err (Cond.is 0 true a b))]) ∧ w = w' := by
  rw [Cond.q_0t a b]
  simp only [Cond.val_some, Cond.err_some, Cond.val_none, Cond.err_none]
  go_enter Try.func37, Try.ntmps37
  go_wp2_with (first | (go_at_call 46; (with_reducible refine (rsign_c _ _ _).mono ?_); rintro e w1 ⟨rfl, rfl⟩))
  go_ret2
  exact ⟨rfl, rfl⟩

theorem ris_16t (a b : BitVec 64) (w : World) : Calls Try.prog 37 #[.int .u8 16, .bool (true), .int .u64 (N a), .int .u64 (N b)] w fun e w' => e = .returned (.tuple #[.bool (Cond.val (Cond.is 16 true a b)), .int .i64 (Cond.err (Cond.is 16 true a b))]) ∧ w = w' := by
  rw [Cond.q_16t a b]
  simp only [Cond.val_some, Cond.err_some, Cond.val_none, Cond.err_none]
  go_enter Try.func37, Try.ntmps37
  go_wp2_with (first | (go_at_call 46; (with_reducible refine (rsign_c _ _ _).mono ?_); rintro e w1 ⟨rfl, rfl⟩))
  go_ret2
  exact ⟨rfl, rfl⟩

theorem ris_80t (a b : BitVec 64) (w : World) : Calls Try.prog 37 #[.int .u8 80, .bool (true), .int .u64 (N a), .int .u64 (N b)] w fun e w' => e = .returned (.tuple #[.bool (Cond.val (Cond.is 80 true a b)), .int .i64 (Cond.err (Cond.is 80 true a b))]) ∧ w = w' := by
  rw [Cond.q_80t a b]
  simp only [Cond.val_some, Cond.err_some, Cond.val_none, Cond.err_none]
  go_enter Try.func37, Try.ntmps37
  go_wp2_with (first | (go_at_call 46; (with_reducible refine (rsign_c _ _ _).mono ?_); rintro e w1 ⟨rfl, rfl⟩))
  go_ret2
  exact ⟨rfl, rfl⟩

theorem ris_32t (a b : BitVec 64) (w : World) : Calls Try.prog 37 #[.int .u8 32, .bool (true), .int .u64 (N a), .int .u64 (N b)] w fun e w' => e = .returned (.tuple #[.bool (Cond.val (Cond.is 32 true a b)), .int .i64 (Cond.err (Cond.is 32 true a b))]) ∧ w = w' := by
  rw [Cond.q_32t a b]
  simp only [Cond.val_some, Cond.err_some, Cond.val_none, Cond.err_none]
  go_enter Try.func37, Try.ntmps37
  go_wp2_with (first | (go_at_call 46; (with_reducible refine (rsign_c _ _ _).mono ?_); rintro e w1 ⟨rfl, rfl⟩))
  go_ret2
  exact ⟨rfl, rfl⟩

theorem ris_48t (a b : BitVec 64) (w : World) : Calls Try.prog 37 #[.int .u8 48, .bool (true), .int .u64 (N a), .int .u64 (N b)] w fun e w' => e = .returned (.tuple #[.bool (Cond.val (Cond.is 48 true a b)), .int .i64 (Cond.err (Cond.is 48 true a b))]) ∧ w = w' := by
  rw [Cond.q_48t a b]
  simp only [Cond.val_some, Cond.err_some, Cond.val_none, Cond.err_none]
  go_enter Try.func37, Try.ntmps37
  go_wp2_with (first | (go_at_call 46; (with_reducible refine (rsign_c _ _ _).mono ?_); rintro e w1 ⟨rfl, rfl⟩))
  go_ret2
  exact ⟨rfl, rfl⟩

theorem ris_160t (a b : BitVec 64) (w : World) : Calls Try.prog 37 #[.int .u8 160, .bool (true), .int .u64 (N a), .int .u64 (N b)] w fun e w' => e = .returned (.tuple #[.bool (Cond.val (Cond.is 160 true a b)), .int .i64 (Cond.err (Cond.is 160 true a b))]) ∧ w = w' := by
  rw [Cond.q_160t a b]
  simp only [Cond.val_some, Cond.err_some, Cond.val_none, Cond.err_none]
  go_enter Try.func37, Try.ntmps37
  go_wp2_with (first | (go_at_call 46; (with_reducible refine (rsign_c _ _ _).mono ?_); rintro e w1 ⟨rfl, rfl⟩))
  go_ret2
  exact ⟨rfl, rfl⟩

theorem ris_176t (a b : BitVec 64) (w : World) : Calls Try.prog 37 #[.int .u8 176, .bool (true), .int .u64 (N a), .int .u64 (N b)] w fun e w' => e = .returned (.tuple #[.bool (Cond.val (Cond.is 176 true a b)), .int .i64 (Cond.err (Cond.is 176 true a b))]) ∧ w = w' := by
  rw [Cond.q_176t a b]
  simp only [Cond.val_some, Cond.err_some, Cond.val_none, Cond.err_none]
  go_enter Try.func37, Try.ntmps37
  go_wp2_with (first | (go_at_call 46; (with_reducible refine (rsign_c _ _ _).mono ?_); rintro e w1 ⟨rfl, rfl⟩))
  go_ret2
  exact ⟨rfl, rfl⟩

theorem ris_96t (a b : BitVec 64) (w : World) : Calls Try.prog 37 #[.int .u8 96, .bool (true), .int .u64 (N a), .int .u64 (N b)] w fun e w' => e = .returned (.tuple #[.bool (Cond.val (Cond.is 96 true a b)), .int .i64 (Cond.err (Cond.is 96 true a b))]) ∧ w = w' := by
  rw [Cond.q_96t a b]
  simp only [Cond.val_some, Cond.err_some, Cond.val_none, Cond.err_none]
  go_enter Try.func37, Try.ntmps37
  go_wp2_with (first | (go_at_call 46; (with_reducible refine (rsign_c _ _ _).mono ?_); rintro e w1 ⟨rfl, rfl⟩))
  go_ret2
  exact ⟨rfl, rfl⟩

theorem ris_112t (a b : BitVec 64) (w : World) : Calls Try.prog 37 #[.int .u8 112, .bool (true), .int .u64 (N a), .int .u64 (N b)] w fun e w' => e = .returned (.tuple #[.bool (Cond.val (Cond.is 112 true a b)), .int .i64 (Cond.err (Cond.is 112 true a b))]) ∧ w = w' := by
  rw [Cond.q_112t a b]
  simp only [Cond.val_some, Cond.err_some, Cond.val_none, Cond.err_none]
  go_enter Try.func37, Try.ntmps37
  go_wp2_with (first | (go_at_call 46; (with_reducible refine (rsign_c _ _ _).mono ?_); rintro e w1 ⟨rfl, rfl⟩))
  go_ret2
  exact ⟨rfl, rfl⟩

theorem ris_192t (a b : BitVec 64) (w : World) : Calls Try.prog 37 #[.int .u8 192, .bool (true), .int .u64 (N a), .int .u64 (N b)] w fun e w' => e = .returned (.tuple #[.bool (Cond.val (Cond.is 192 true a b)), .int .i64 (Cond.err (Cond.is 192 true a b))]) ∧ w = w' := by
  rw [Cond.q_192t a b]
  simp only [Cond.val_some, Cond.err_some, Cond.val_none, Cond.err_none]
  go_enter Try.func37, Try.ntmps37
  go_wp2_with (first | (go_at_call 46; (with_reducible refine (rsign_c _ _ _).mono ?_); rintro e w1 ⟨rfl, rfl⟩))
  go_ret2
  exact ⟨rfl, rfl⟩

theorem ris_208t (a b : BitVec 64) (w : World) : Calls Try.prog 37 #[.int .u8 208, .bool (true), .int .u64 (N a), .int .u64 (N b)] w fun e w' => e = .returned (.tuple #[.bool (Cond.val (Cond.is 208 true a b)), .int .i64 (Cond.err (Cond.is 208 true a b))]) ∧ w = w' := by
  rw [Cond.q_208t a b]
  simp only [Cond.val_some, Cond.err_some, Cond.val_none, Cond.err_none]
  go_enter Try.func37, Try.ntmps37
  go_wp2_with (first | (go_at_call 46; (with_reducible refine (rsign_c _ _ _).mono ?_); rintro e w1 ⟨rfl, rfl⟩))
  go_ret2
  exact ⟨rfl, rfl⟩

theorem ris_64t (a b : BitVec 64) (w : World) : Calls Try.prog 37 #[.int .u8 64, .bool (true), .int .u64 (N a), .int .u64 (N b)] w fun e w' => e = .returned (.tuple #[.bool (Cond.val (Cond.is 64 true a b)), .int .i64 (Cond.err (Cond.is 64 true a b))]) ∧ w = w' := by
  rw [Cond.q_64t a b]
  simp only [Cond.val_some, Cond.err_some, Cond.val_none, Cond.err_none]
  go_enter Try.func37, Try.ntmps37
  go_wp2_with (first | (go_at_call 46; (with_reducible refine (rsign_c _ _ _).mono ?_); rintro e w1 ⟨rfl, rfl⟩))
  go_ret2
  exact ⟨rfl, rfl⟩

theorem ris_elset (op : Int) (n0 : ¬ op = 0) (n16 : ¬ op = 16) (n32 : ¬ op = 32) (n48 : ¬ op = 48) (n64 : ¬ op = 64) (n80 : ¬ op = 80) (n96 : ¬ op = 96) (n112 : ¬ op = 112) (n160 : ¬ op = 160) (n176 : ¬ op = 176) (n192 : ¬ op = 192) (n208 : ¬ op = 208) (a b : BitVec 64) (w : World) : Calls Try.prog 37 #[.int .u8 op, .bool (true), .int .u64 (N a), .int .u64 (N b)] w fun e w' => e = .returned (.tuple #[.bool (Cond.val (Cond.is op true a b)), .int .i64 (Cond.err (Cond.is op true a b))]) ∧ w = w' := by
  rw [Cond.is_else op true a b n0 n16 n32 n48 n64 n80 n96 n112 n160 n176 n192 n208]
  simp only [Cond.val_some, Cond.err_some, Cond.val_none, Cond.err_none]
  go_enter Try.func37, Try.ntmps37
  go_wp2_with (first | (go_at_call 46; (with_reducible refine (rsign_c _ _ _).mono ?_); rintro e w1 ⟨rfl, rfl⟩))
  go_ret2
  exact ⟨rfl, rfl⟩

theorem ris_0f (a b : BitVec 64) (w : World) : Calls Try.prog 37 #[.int .u8 0, .bool (false), .int .u64 (N a), .int .u64 (N b)] w fun e w' => e = .returned (.tuple #[.bool (Cond.val (Cond.is 0 false a b)), .int .i64 (Cond.err (Cond.is 0 false a b))]) ∧ w = w' := by
  rw [Cond.q_0f a b]
  simp only [Cond.val_some, Cond.err_some, Cond.val_none, Cond.err_none]
  go_enter Try.func37, Try.ntmps37
  go_wp2_with (first | (go_at_call 46; (with_reducible refine (rsign_c _ _ _).mono ?_); rintro e w1 ⟨rfl, rfl⟩))
  go_ret2
  exact ⟨rfl, rfl⟩

theorem ris_16f (a b : BitVec 64) (w : World) : Calls Try.prog 37 #[.int .u8 16, .bool (false), .int .u64 (N a), .int .u64 (N b)] w fun e w' => e = .returned (.tuple #[.bool (Cond.val (Cond.is 16 false a b)), .int .i64 (Cond.err (Cond.is 16 false a b))]) ∧ w = w' := by
  rw [Cond.q_16f a b]
  simp only [Cond.val_some, Cond.err_some, Cond.val_none, Cond.err_none]
  go_enter Try.func37, Try.ntmps37
  go_wp2_with (first | (go_at_call 46; (with_reducible refine (rsign_c _ _ _).mono ?_); rintro e w1 ⟨rfl, rfl⟩))
  go_ret2
  exact ⟨rfl, rfl⟩

theorem ris_80f (a b : BitVec 64) (w : World) : Calls Try.prog 37 #[.int .u8 80, .bool (false), .int .u64 (N a), .int .u64 (N b)] w fun e w' => e = .returned (.tuple #[.bool (Cond.val (Cond.is 80 false a b)), .int .i64 (Cond.err (Cond.is 80 false a b))]) ∧ w = w' := by
  rw [Cond.q_80f a b]
  simp only [Cond.val_some, Cond.err_some, Cond.val_none, Cond.err_none]
  go_enter Try.func37, Try.ntmps37
  go_wp2_with (first | (go_at_call 46; (with_reducible refine (rsign_c _ _ _).mono ?_); rintro e w1 ⟨rfl, rfl⟩))
  go_ret2
  exact ⟨rfl, rfl⟩

theorem ris_32f (a b : BitVec 64) (w : World) : Calls Try.prog 37 #[.int .u8 32, .bool (false), .int .u64 (N a), .int .u64 (N b)] w fun e w' => e = .returned (.tuple #[.bool (Cond.val (Cond.is 32 false a b)), .int .i64 (Cond.err (Cond.is 32 false a b))]) ∧ w = w' := by
  rw [Cond.q_32f a b]
  simp only [Cond.val_some, Cond.err_some, Cond.val_none, Cond.err_none]
  go_enter Try.func37, Try.ntmps37
  go_wp2_with (first | (go_at_call 46; (with_reducible refine (rsign_c _ _ _).mono ?_); rintro e w1 ⟨rfl, rfl⟩))
  go_ret2
  exact ⟨rfl, rfl⟩

theorem ris_48f (a b : BitVec 64) (w : World) : Calls Try.prog 37 #[.int .u8 48, .bool (false), .int .u64 (N a), .int .u64 (N b)] w fun e w' => e = .returned (.tuple #[.bool (Cond.val (Cond.is 48 false a b)), .int .i64 (Cond.err (Cond.is 48 false a b))]) ∧ w = w' := by
  rw [Cond.q_48f a b]
  simp only [Cond.val_some, Cond.err_some, Cond.val_none, Cond.err_none]
  go_enter Try.func37, Try.ntmps37
  go_wp2_with (first | (go_at_call 46; (with_reducible refine (rsign_c _ _ _).mono ?_); rintro e w1 ⟨rfl, rfl⟩))
  go_ret2
  exact ⟨rfl, rfl⟩

theorem ris_160f (a b : BitVec 64) (w : World) : Calls Try.prog 37 #[.int .u8 160, .bool (false), .int .u64 (N a), .int .u64 (N b)] w fun e w' => e = .returned (.tuple #[.bool (Cond.val (Cond.is 160 false a b)), .int .i64 (Cond.err (Cond.is 160 false a b))]) ∧ w = w' := by
  rw [Cond.q_160f a b]
  simp only [Cond.val_some, Cond.err_some, Cond.val_none, Cond.err_none]
  go_enter Try.func37, Try.ntmps37
  go_wp2_with (first | (go_at_call 46; (with_reducible refine (rsign_c _ _ _).mono ?_); rintro e w1 ⟨rfl, rfl⟩))
  go_ret2
  exact ⟨rfl, rfl⟩

theorem ris_176f (a b : BitVec 64) (w : World) : Calls Try.prog 37 #[.int .u8 176, .bool (false), .int .u64 (N a), .int .u64 (N b)] w fun e w' => e = .returned (.tuple #[.bool (Cond.val (Cond.is 176 false a b)), .int .i64 (Cond.err (Cond.is 176 false a b))]) ∧ w = w' := by
  rw [Cond.q_176f a b]
  simp only [Cond.val_some, Cond.err_some, Cond.val_none, Cond.err_none]
  go_enter Try.func37, Try.ntmps37
  go_wp2_with (first | (go_at_call 46; (with_reducible refine (rsign_c _ _ _).mono ?_); rintro e w1 ⟨rfl, rfl⟩))
  go_ret2
  exact ⟨rfl, rfl⟩

theorem ris_96f (a b : BitVec 64) (w : World) : Calls Try.prog 37 #[.int .u8 96, .bool (false), .int .u64 (N a), .int .u64 (N b)] w fun e w' => e = .returned (.tuple #[.bool (Cond.val (Cond.is 96 false a b)), .int .i64 (Cond.err (Cond.is 96 false a b))]) ∧ w = w' := by
  rw [Cond.q_96f a b]
  simp only [Cond.val_some, Cond.err_some, Cond.val_none, Cond.err_none]
  go_enter Try.func37, Try.ntmps37
  go_wp2_with (first | (go_at_call 46; (with_reducible refine (rsign_c _ _ _).mono ?_); rintro e w1 ⟨rfl, rfl⟩))
  go_ret2
  exact ⟨rfl, rfl⟩

theorem ris_112f (a b : BitVec 64) (w : World) : Calls Try.prog 37 #[.int .u8 112, .bool (false), .int .u64 (N a), .int .u64 (N b)] w fun e w' => e = .returned (.tuple #[.bool (Cond.val (Cond.is 112 false a b)), .int .i64 (Cond.err (Cond.is 112 false a b))]) ∧ w = w' := by
  rw [Cond.q_112f a b]
  simp only [Cond.val_some, Cond.err_some, Cond.val_none, Cond.err_none]
  go_enter Try.func37, Try.ntmps37
  go_wp2_with (first | (go_at_call 46; (with_reducible refine (rsign_c _ _ _).mono ?_); rintro e w1 ⟨rfl, rfl⟩))
  go_ret2
  exact ⟨rfl, rfl⟩

theorem ris_192f (a b : BitVec 64) (w : World) : Calls Try.prog 37 #[.int .u8 192, .bool (false), .int .u64 (N a), .int .u64 (N b)] w fun e w' => e = .returned (.tuple #[.bool (Cond.val (Cond.is 192 false a b)), .int .i64 (Cond.err (Cond.is 192 false a b))]) ∧ w = w' := by
  rw [Cond.q_192f a b]
  simp only [Cond.val_some, Cond.err_some, Cond.val_none, Cond.err_none]
  go_enter Try.func37, Try.ntmps37
  go_wp2_with (first | (go_at_call 46; (with_reducible refine (rsign_c _ _ _).mono ?_); rintro e w1 ⟨rfl, rfl⟩))
  go_ret2
  exact ⟨rfl, rfl⟩

theorem ris_208f (a b : BitVec 64) (w : World) : Calls Try.prog 37 #[.int .u8 208, .bool (false), .int .u64 (N a), .int .u64 (N b)] w fun e w' => e = .returned (.tuple #[.bool (Cond.val (Cond.is 208 false a b)), .int .i64 (Cond.err (Cond.is 208 false a b))]) ∧ w = w' := by
  rw [Cond.q_208f a b]
  simp only [Cond.val_some, Cond.err_some, Cond.val_none, Cond.err_none]
  go_enter Try.func37, Try.ntmps37
  go_wp2_with (first | (go_at_call 46; (with_reducible refine (rsign_c _ _ _).mono ?_); rintro e w1 ⟨rfl, rfl⟩))
  go_ret2
  exact ⟨rfl, rfl⟩

theorem ris_64f (a b : BitVec 64) (w : World) : Calls Try.prog 37 #[.int .u8 64, .bool (false), .int .u64 (N a), .int .u64 (N b)] w fun e w' => e = .returned (.tuple #[.bool (Cond.val (Cond.is 64 false a b)), .int .i64 (Cond.err (Cond.is 64 false a b))]) ∧ w = w' := by
  rw [Cond.q_64f a b]
  simp only [Cond.val_some, Cond.err_some, Cond.val_none, Cond.err_none]
  go_enter Try.func37, Try.ntmps37
  go_wp2_with (first | (go_at_call 46; (with_reducible refine (rsign_c _ _ _).mono ?_); rintro e w1 ⟨rfl, rfl⟩))
  go_ret2
  exact ⟨rfl, rfl⟩

theorem ris_elsef (op : Int) (n0 : ¬ op = 0) (n16 : ¬ op = 16) (n32 : ¬ op = 32) (n48 : ¬ op = 48) (n64 : ¬ op = 64) (n80 : ¬ op = 80) (n96 : ¬ op = 96) (n112 : ¬ op = 112) (n160 : ¬ op = 160) (n176 : ¬ op = 176) (n192 : ¬ op = 192) (n208 : ¬ op = 208) (a b : BitVec 64) (w : World) : Calls Try.prog 37 #[.int .u8 op, .bool (false), .int .u64 (N a), .int .u64 (N b)] w fun e w' => e = .returned (.tuple #[.bool (Cond.val (Cond.is op false a b)), .int .i64 (Cond.err (Cond.is op false a b))]) ∧ w = w' := by
  rw [Cond.is_else op false a b n0 n16 n32 n48 n64 n80 n96 n112 n160 n176 n192 n208]
  simp only [Cond.val_some, Cond.err_some, Cond.val_none, Cond.err_none]
  go_enter Try.func37, Try.ntmps37
  go_wp2_with (first | (go_at_call 46; (with_reducible refine (rsign_c _ _ _).mono ?_); rintro e w1 ⟨rfl, rfl⟩))
  go_ret2
  exact ⟨rfl, rfl⟩

theorem ris_c (op : Int) (wd : Bool) (a b : BitVec 64) (w : World) : Calls Try.prog 37 #[.int .u8 op, .bool (wd), .int .u64 (N a), .int .u64 (N b)] w fun e w' => e = .returned (.tuple #[.bool (Cond.val (Cond.is op wd a b)), .int .i64 (Cond.err (Cond.is op wd a b))]) ∧ w = w' := by
  by_cases n0 : op = 0
  · subst n0; cases wd
    · exact ris_0f a b w
    · exact ris_0t a b w
  by_cases n16 : op = 16
  · subst n16; cases wd
    · exact ris_16f a b w
    · exact ris_16t a b w
  by_cases n32 : op = 32
  · subst n32; cases wd
    · exact ris_32f a b w
    · exact ris_32t a b w
  by_cases n48 : op = 48
  · subst n48; cases wd
    · exact ris_48f a b w
    · exact ris_48t a b w
  by_cases n64 : op = 64
  · subst n64; cases wd
    · exact ris_64f a b w
    · exact ris_64t a b w
  by_cases n80 : op = 80
  · subst n80; cases wd
    · exact ris_80f a b w
    · exact ris_80t a b w
  by_cases n96 : op = 96
  · subst n96; cases wd
    · exact ris_96f a b w
    · exact ris_96t a b w
  by_cases n112 : op = 112
  · subst n112; cases wd
    · exact ris_112f a b w
    · exact ris_112t a b w
  by_cases n160 : op = 160
  · subst n160; cases wd
    · exact ris_160f a b w
    · exact ris_160t a b w
  by_cases n176 : op = 176
  · subst n176; cases wd
    · exact ris_176f a b w
    · exact ris_176t a b w
  by_cases n192 : op = 192
  · subst n192; cases wd
    · exact ris_192f a b w
    · exact ris_192t a b w
  by_cases n208 : op = 208
  · subst n208; cases wd
    · exact ris_208f a b w
    · exact ris_208t a b w
  cases wd
  · exact ris_elsef op n0 n16 n32 n48 n64 n80 n96 n112 n160 n176 n192 n208 a b w
  · exact ris_elset op n0 n16 n32 n48 n64 n80 n96 n112 n160 n176 n192 n208 a b w

end Hk

namespace Hk
open Go Go.RowKit Go.Proofs
set_option linter.unusedSimpArgs false
set_option linter.unusedVariables false
set_option maxRecDepth 100000
attribute [go_sem] Cond.val_some Cond.err_some Cond.val_none Cond.err_none
theorem rturnedp_16 (b : Nat) (w : World) (c0 : w.cell? ⟨b, 0, none⟩ = some (.int .u8 16)) (c1 : w.cell? ⟨b, 1, none⟩ = some (.int .u8 16)) (c2 : w.cell? ⟨b, 2, none⟩ = some (.int .u8 80)) (c3 : w.cell? ⟨b, 3, none⟩ = some (.int .u8 80)) (c4 : w.cell? ⟨b, 4, none⟩ = some (.int .u8 64)) (c5 : w.cell? ⟨b, 5, none⟩ = some (.int .u8 64)) (c6 : w.cell? ⟨b, 6, none⟩ = some (.int .u8 32)) (c7 : w.cell? ⟨b, 7, none⟩ = some (.int .u8 160)) (c8 : w.cell? ⟨b, 8, none⟩ = some (.int .u8 48)) (c9 : w.cell? ⟨b, 9, none⟩ = some (.int .u8 176)) (c10 : w.cell? ⟨b, 10, none⟩ = some (.int .u8 96)) (c11 : w.cell? ⟨b, 11, none⟩ = some (.int .u8 192)) (c12 : w.cell? ⟨b, 12, none⟩ = some (.int .u8 112)) (c13 : w.cell? ⟨b, 13, none⟩ = some (.int .u8 208)) : Calls Try.prog 102 #[.slice (some ⟨b, 0, none⟩) 14 14, .int .u8 16] w fun e w' => e = .returned (.tuple #[.int .u8 ((Cond.turned 16).getD 0), .bool (Cond.turned 16).isSome]) ∧ w = w' := by
  go_enter Try.func102, Try.ntmps102
  go_wp2
  refine wp_loop_rounds 1 ?_
  rw [rounds_succ]
  go_wp2
  go_ret2
  exact ⟨rfl, rfl⟩

theorem rturnedp_80 (b : Nat) (w : World) (c0 : w.cell? ⟨b, 0, none⟩ = some (.int .u8 16)) (c1 : w.cell? ⟨b, 1, none⟩ = some (.int .u8 16)) (c2 : w.cell? ⟨b, 2, none⟩ = some (.int .u8 80)) (c3 : w.cell? ⟨b, 3, none⟩ = some (.int .u8 80)) (c4 : w.cell? ⟨b, 4, none⟩ = some (.int .u8 64)) (c5 : w.cell? ⟨b, 5, none⟩ = some (.int .u8 64)) (c6 : w.cell? ⟨b, 6, none⟩ = some (.int .u8 32)) (c7 : w.cell? ⟨b, 7, none⟩ = some (.int .u8 160)) (c8 : w.cell? ⟨b, 8, none⟩ = some (.int .u8 48)) (c9 : w.cell? ⟨b, 9, none⟩ = some (.int .u8 176)) (c10 : w.cell? ⟨b, 10, none⟩ = some (.int .u8 96)) (c11 : w.cell? ⟨b, 11, none⟩ = some (.int .u8 192)) (c12 : w.cell? ⟨b, 12, none⟩ = some (.int .u8 112)) (c13 : w.cell? ⟨b, 13, none⟩ = some (.int .u8 208)) : Calls Try.prog 102 #[.slice (some ⟨b, 0, none⟩) 14 14, .int .u8 80] w fun e w' => e = .returned (.tuple #[.int .u8 ((Cond.turned 80).getD 0), .bool (Cond.turned 80).isSome]) ∧ w = w' := by
  go_enter Try.func102, Try.ntmps102
  go_wp2
  refine wp_loop_rounds 2 ?_
  rw [rounds_succ]
  go_wp2
  rw [rounds_succ]
  go_wp2
  go_ret2
  exact ⟨rfl, rfl⟩

theorem rturnedp_64 (b : Nat) (w : World) (c0 : w.cell? ⟨b, 0, none⟩ = some (.int .u8 16)) (c1 : w.cell? ⟨b, 1, none⟩ = some (.int .u8 16)) (c2 : w.cell? ⟨b, 2, none⟩ = some (.int .u8 80)) (c3 : w.cell? ⟨b, 3, none⟩ = some (.int .u8 80)) (c4 : w.cell? ⟨b, 4, none⟩ = some (.int .u8 64)) (c5 : w.cell? ⟨b, 5, none⟩ = some (.int .u8 64)) (c6 : w.cell? ⟨b, 6, none⟩ = some (.int .u8 32)) (c7 : w.cell? ⟨b, 7, none⟩ = some (.int .u8 160)) (c8 : w.cell? ⟨b, 8, none⟩ = some (.int .u8 48)) (c9 : w.cell? ⟨b, 9, none⟩ = some (.int .u8 176)) (c10 : w.cell? ⟨b, 10, none⟩ = some (.int .u8 96)) (c11 : w.cell? ⟨b, 11, none⟩ = some (.int .u8 192)) (c12 : w.cell? ⟨b, 12, none⟩ = some (.int .u8 112)) (c13 : w.cell? ⟨b, 13, none⟩ = some (.int .u8 208)) : Calls Try.prog 102 #[.slice (some ⟨b, 0, none⟩) 14 14, .int .u8 64] w fun e w' => e = .returned (.tuple #[.int .u8 ((Cond.turned 64).getD 0), .bool (Cond.turned 64).isSome]) ∧ w = w' := by
  go_enter Try.func102, Try.ntmps102
  go_wp2
  refine wp_loop_rounds 3 ?_
  rw [rounds_succ]
  go_wp2
  rw [rounds_succ]
  go_wp2
  rw [rounds_succ]
  go_wp2
  go_ret2
  exact ⟨rfl, rfl⟩

theorem rturnedp_32 (b : Nat) (w : World) (c0 : w.cell? ⟨b, 0, none⟩ = some (.int .u8 16)) (c1 : w.cell? ⟨b, 1, none⟩ = some (.int .u8 16)) (c2 : w.cell? ⟨b, 2, none⟩ = some (.int .u8 80)) (c3 : w.cell? ⟨b, 3, none⟩ = some (.int .u8 80)) (c4 : w.cell? ⟨b, 4, none⟩ = some (.int .u8 64)) (c5 : w.cell? ⟨b, 5, none⟩ = some (.int .u8 64)) (c6 : w.cell? ⟨b, 6, none⟩ = some (.int .u8 32)) (c7 : w.cell? ⟨b, 7, none⟩ = some (.int .u8 160)) (c8 : w.cell? ⟨b, 8, none⟩ = some (.int .u8 48)) (c9 : w.cell? ⟨b, 9, none⟩ = some (.int .u8 176)) (c10 : w.cell? ⟨b, 10, none⟩ = some (.int .u8 96)) (c11 : w.cell? ⟨b, 11, none⟩ = some (.int .u8 192)) (c12 : w.cell? ⟨b, 12, none⟩ = some (.int .u8 112)) (c13 : w.cell? ⟨b, 13, none⟩ = some (.int .u8 208)) : Calls Try.prog 102 #[.slice (some ⟨b, 0, none⟩) 14 14, .int .u8 32] w fun e w' => e = .returned (.tuple #[.int .u8 ((Cond.turned 32).getD 0), .bool (Cond.turned 32).isSome]) ∧ w = w' := by
  go_enter Try.func102, Try.ntmps102
  go_wp2
  refine wp_loop_rounds 4 ?_
  rw [rounds_succ]
  go_wp2
  rw [rounds_succ]
  go_wp2
  rw [rounds_succ]
  go_wp2
  rw [rounds_succ]
  go_wp2
  go_ret2
  exact ⟨rfl, rfl⟩

theorem rturnedp_160 (b : Nat) (w : World) (c0 : w.cell? ⟨b, 0, none⟩ = some (.int .u8 16)) (c1 : w.cell? ⟨b, 1, none⟩ = some (.int .u8 16)) (c2 : w.cell? ⟨b, 2, none⟩ = some (.int .u8 80)) (c3 : w.cell? ⟨b, 3, none⟩ = some (.int .u8 80)) (c4 : w.cell? ⟨b, 4, none⟩ = some (.int .u8 64)) (c5 : w.cell? ⟨b, 5, none⟩ = some (.int .u8 64)) (c6 : w.cell? ⟨b, 6, none⟩ = some (.int .u8 32)) (c7 : w.cell? ⟨b, 7, none⟩ = some (.int .u8 160)) (c8 : w.cell? ⟨b, 8, none⟩ = some (.int .u8 48)) (c9 : w.cell? ⟨b, 9, none⟩ = some (.int .u8 176)) (c10 : w.cell? ⟨b, 10, none⟩ = some (.int .u8 96)) (c11 : w.cell? ⟨b, 11, none⟩ = some (.int .u8 192)) (c12 : w.cell? ⟨b, 12, none⟩ = some (.int .u8 112)) (c13 : w.cell? ⟨b, 13, none⟩ = some (.int .u8 208)) : Calls Try.prog 102 #[.slice (some ⟨b, 0, none⟩) 14 14, .int .u8 160] w fun e w' => e = .returned (.tuple #[.int .u8 ((Cond.turned 160).getD 0), .bool (Cond.turned 160).isSome]) ∧ w = w' := by
  go_enter Try.func102, Try.ntmps102
  go_wp2
  refine wp_loop_rounds 4 ?_
  rw [rounds_succ]
  go_wp2
  rw [rounds_succ]
  go_wp2
  rw [rounds_succ]
  go_wp2
  rw [rounds_succ]
  go_wp2
  go_ret2
  exact ⟨rfl, rfl⟩

theorem rturnedp_48 (b : Nat) (w : World) (c0 : w.cell? ⟨b, 0, none⟩ = some (.int .u8 16)) (c1 : w.cell? ⟨b, 1, none⟩ = some (.int .u8 16)) (c2 : w.cell? ⟨b, 2, none⟩ = some (.int .u8 80)) (c3 : w.cell? ⟨b, 3, none⟩ = some (.int .u8 80)) (c4 : w.cell? ⟨b, 4, none⟩ = some (.int .u8 64)) (c5 : w.cell? ⟨b, 5, none⟩ = some (.int .u8 64)) (c6 : w.cell? ⟨b, 6, none⟩ = some (.int .u8 32)) (c7 : w.cell? ⟨b, 7, none⟩ = some (.int .u8 160)) (c8 : w.cell? ⟨b, 8, none⟩ = some (.int .u8 48)) (c9 : w.cell? ⟨b, 9, none⟩ = some (.int .u8 176)) (c10 : w.cell? ⟨b, 10, none⟩ = some (.int .u8 96)) (c11 : w.cell? ⟨b, 11, none⟩ = some (.int .u8 192)) (c12 : w.cell? ⟨b, 12, none⟩ = some (.int .u8 112)) (c13 : w.cell? ⟨b, 13, none⟩ = some (.int .u8 208)) : Calls Try.prog 102 #[.slice (some ⟨b, 0, none⟩) 14 14, .int .u8 48] w fun e w' => e = .returned (.tuple #[.int .u8 ((Cond.turned 48).getD 0), .bool (Cond.turned 48).isSome]) ∧ w = w' := by
  go_enter Try.func102, Try.ntmps102
  go_wp2
  refine wp_loop_rounds 5 ?_
  rw [rounds_succ]
  go_wp2
  rw [rounds_succ]
  go_wp2
  rw [rounds_succ]
  go_wp2
  rw [rounds_succ]
  go_wp2
  rw [rounds_succ]
  go_wp2
  go_ret2
  exact ⟨rfl, rfl⟩

theorem rturnedp_176 (b : Nat) (w : World) (c0 : w.cell? ⟨b, 0, none⟩ = some (.int .u8 16)) (c1 : w.cell? ⟨b, 1, none⟩ = some (.int .u8 16)) (c2 : w.cell? ⟨b, 2, none⟩ = some (.int .u8 80)) (c3 : w.cell? ⟨b, 3, none⟩ = some (.int .u8 80)) (c4 : w.cell? ⟨b, 4, none⟩ = some (.int .u8 64)) (c5 : w.cell? ⟨b, 5, none⟩ = some (.int .u8 64)) (c6 : w.cell? ⟨b, 6, none⟩ = some (.int .u8 32)) (c7 : w.cell? ⟨b, 7, none⟩ = some (.int .u8 160)) (c8 : w.cell? ⟨b, 8, none⟩ = some (.int .u8 48)) (c9 : w.cell? ⟨b, 9, none⟩ = some (.int .u8 176)) (c10 : w.cell? ⟨b, 10, none⟩ = some (.int .u8 96)) (c11 : w.cell? ⟨b, 11, none⟩ = some (.int .u8 192)) (c12 : w.cell? ⟨b, 12, none⟩ = some (.int .u8 112)) (c13 : w.cell? ⟨b, 13, none⟩ = some (.int .u8 208)) : Calls Try.prog 102 #[.slice (some ⟨b, 0, none⟩) 14 14, .int .u8 176] w fun e w' => e = .returned (.tuple #[.int .u8 ((Cond.turned 176).getD 0), .bool (Cond.turned 176).isSome]) ∧ w = w' := by
  go_enter Try.func102, Try.ntmps102
  go_wp2
  refine wp_loop_rounds 5 ?_
  rw [rounds_succ]
  go_wp2
  rw [rounds_succ]
  go_wp2
  rw [rounds_succ]
  go_wp2
  rw [rounds_succ]
  go_wp2
  rw [rounds_succ]
  go_wp2
  go_ret2
  exact ⟨rfl, rfl⟩

theorem rturnedp_96 (b : Nat) (w : World) (c0 : w.cell? ⟨b, 0, none⟩ = some (.int .u8 16)) (c1 : w.cell? ⟨b, 1, none⟩ = some (.int .u8 16)) (c2 : w.cell? ⟨b, 2, none⟩ = some (.int .u8 80)) (c3 : w.cell? ⟨b, 3, none⟩ = some (.int .u8 80)) (c4 : w.cell? ⟨b, 4, none⟩ = some (.int .u8 64)) (c5 : w.cell? ⟨b, 5, none⟩ = some (.int .u8 64)) (c6 : w.cell? ⟨b, 6, none⟩ = some (.int .u8 32)) (c7 : w.cell? ⟨b, 7, none⟩ = some (.int .u8 160)) (c8 : w.cell? ⟨b, 8, none⟩ = some (.int .u8 48)) (c9 : w.cell? ⟨b, 9, none⟩ = some (.int .u8 176)) (c10 : w.cell? ⟨b, 10, none⟩ = some (.int .u8 96)) (c11 : w.cell? ⟨b, 11, none⟩ = some (.int .u8 192)) (c12 : w.cell? ⟨b, 12, none⟩ = some (.int .u8 112)) (c13 : w.cell? ⟨b, 13, none⟩ = some (.int .u8 208)) : Calls Try.prog 102 #[.slice (some ⟨b, 0, none⟩) 14 14, .int .u8 96] w fun e w' => e = .returned (.tuple #[.int .u8 ((Cond.turned 96).getD 0), .bool (Cond.turned 96).isSome]) ∧ w = w' := by
  go_enter Try.func102, Try.ntmps102
  go_wp2
  refine wp_loop_rounds 6 ?_
  rw [rounds_succ]
  go_wp2
  rw [rounds_succ]
  go_wp2
  rw [rounds_succ]
  go_wp2
  rw [rounds_succ]
  go_wp2
  rw [rounds_succ]
  go_wp2
  rw [rounds_succ]
  go_wp2
  go_ret2
  exact ⟨rfl, rfl⟩

theorem rturnedp_192 (b : Nat) (w : World) (c0 : w.cell? ⟨b, 0, none⟩ = some (.int .u8 16)) (c1 : w.cell? ⟨b, 1, none⟩ = some (.int .u8 16)) (c2 : w.cell? ⟨b, 2, none⟩ = some (.int .u8 80)) (c3 : w.cell? ⟨b, 3, none⟩ = some (.int .u8 80)) (c4 : w.cell? ⟨b, 4, none⟩ = some (.int .u8 64)) (c5 : w.cell? ⟨b, 5, none⟩ = some (.int .u8 64)) (c6 : w.cell? ⟨b, 6, none⟩ = some (.int .u8 32)) (c7 : w.cell? ⟨b, 7, none⟩ = some (.int .u8 160)) (c8 : w.cell? ⟨b, 8, none⟩ = some (.int .u8 48)) (c9 : w.cell? ⟨b, 9, none⟩ = some (.int .u8 176)) (c10 : w.cell? ⟨b, 10, none⟩ = some (.int .u8 96)) (c11 : w.cell? ⟨b, 11, none⟩ = some (.int .u8 192)) (c12 : w.cell? ⟨b, 12, none⟩ = some (.int .u8 112)) (c13 : w.cell? ⟨b, 13, none⟩ = some (.int .u8 208)) : Calls Try.prog 102 #[.slice (some ⟨b, 0, none⟩) 14 14, .int .u8 192] w fun e w' => e = .returned (.tuple #[.int .u8 ((Cond.turned 192).getD 0), .bool (Cond.turned 192).isSome]) ∧ w = w' := by
  go_enter Try.func102, Try.ntmps102
  go_wp2
  refine wp_loop_rounds 6 ?_
  rw [rounds_succ]
  go_wp2
  rw [rounds_succ]
  go_wp2
  rw [rounds_succ]
  go_wp2
  rw [rounds_succ]
  go_wp2
  rw [rounds_succ]
  go_wp2
  rw [rounds_succ]
  go_wp2
  go_ret2
  exact ⟨rfl, rfl⟩

theorem rturnedp_112 (b : Nat) (w : World) (c0 : w.cell? ⟨b, 0, none⟩ = some (.int .u8 16)) (c1 : w.cell? ⟨b, 1, none⟩ = some (.int .u8 16)) (c2 : w.cell? ⟨b, 2, none⟩ = some (.int .u8 80)) (c3 : w.cell? ⟨b, 3, none⟩ = some (.int .u8 80)) (c4 : w.cell? ⟨b, 4, none⟩ = some (.int .u8 64)) (c5 : w.cell? ⟨b, 5, none⟩ = some (.int .u8 64)) (c6 : w.cell? ⟨b, 6, none⟩ = some (.int .u8 32)) (c7 : w.cell? ⟨b, 7, none⟩ = some (.int .u8 160)) (c8 : w.cell? ⟨b, 8, none⟩ = some (.int .u8 48)) (c9 : w.cell? ⟨b, 9, none⟩ = some (.int .u8 176)) (c10 : w.cell? ⟨b, 10, none⟩ = some (.int .u8 96)) (c11 : w.cell? ⟨b, 11, none⟩ = some (.int .u8 192)) (c12 : w.cell? ⟨b, 12, none⟩ = some (.int .u8 112)) (c13 : w.cell? ⟨b, 13, none⟩ = some (.int .u8 208)) : Calls Try.prog 102 #[.slice (some ⟨b, 0, none⟩) 14 14, .int .u8 112] w fun e w' => e = .returned (.tuple #[.int .u8 ((Cond.turned 112).getD 0), .bool (Cond.turned 112).isSome]) ∧ w = w' := by
  go_enter Try.func102, Try.ntmps102
  go_wp2
  refine wp_loop_rounds 7 ?_
  rw [rounds_succ]
  go_wp2
  rw [rounds_succ]
  go_wp2
  rw [rounds_succ]
  go_wp2
  rw [rounds_succ]
  go_wp2
  rw [rounds_succ]
  go_wp2
  rw [rounds_succ]
  go_wp2
  rw [rounds_succ]
  go_wp2
  go_ret2
  exact ⟨rfl, rfl⟩

theorem rturnedp_208 (b : Nat) (w : World) (c0 : w.cell? ⟨b, 0, none⟩ = some (.int .u8 16)) (c1 : w.cell? ⟨b, 1, none⟩ = some (.int .u8 16)) (c2 : w.cell? ⟨b, 2, none⟩ = some (.int .u8 80)) (c3 : w.cell? ⟨b, 3, none⟩ = some (.int .u8 80)) (c4 : w.cell? ⟨b, 4, none⟩ = some (.int .u8 64)) (c5 : w.cell? ⟨b, 5, none⟩ = some (.int .u8 64)) (c6 : w.cell? ⟨b, 6, none⟩ = some (.int .u8 32)) (c7 : w.cell? ⟨b, 7, none⟩ = some (.int .u8 160)) (c8 : w.cell? ⟨b, 8, none⟩ = some (.int .u8 48)) (c9 : w.cell? ⟨b, 9, none⟩ = some (.int .u8 176)) (c10 : w.cell? ⟨b, 10, none⟩ = some (.int .u8 96)) (c11 : w.cell? ⟨b, 11, none⟩ = some (.int .u8 192)) (c12 : w.cell? ⟨b, 12, none⟩ = some (.int .u8 112)) (c13 : w.cell? ⟨b, 13, none⟩ = some (.int .u8 208)) : Calls Try.prog 102 #[.slice (some ⟨b, 0, none⟩) 14 14, .int .u8 208] w fun e w' => e = .returned (.tuple #[.int .u8 ((Cond.turned 208).getD 0), .bool (Cond.turned 208).isSome]) ∧ w = w' := by
  go_enter Try.func102, Try.ntmps102
  go_wp2
  refine wp_loop_rounds 7 ?_
  rw [rounds_succ]
  go_wp2
  rw [rounds_succ]
  go_wp2
  rw [rounds_succ]
  go_wp2
  rw [rounds_succ]
  go_wp2
  rw [rounds_succ]
  go_wp2
  rw [rounds_succ]
  go_wp2
  rw [rounds_succ]
  go_wp2
  go_ret2
  exact ⟨rfl, rfl⟩

theorem rturnedp_else (op : Int) (n16 : ¬ op = 16) (n80 : ¬ op = 80) (n64 : ¬ op = 64) (n32 : ¬ op = 32) (n160 : ¬ op = 160) (n48 : ¬ op = 48) (n176 : ¬ op = 176) (n96 : ¬ op = 96) (n192 : ¬ op = 192) (n112 : ¬ op = 112) (n208 : ¬ op = 208) (b : Nat) (w : World) (c0 : w.cell? ⟨b, 0, none⟩ = some (.int .u8 16)) (c1 : w.cell? ⟨b, 1, none⟩ = some (.int .u8 16)) (c2 : w.cell? ⟨b, 2, none⟩ = some (.int .u8 80)) (c3 : w.cell? ⟨b, 3, none⟩ = some (.int .u8 80)) (c4 : w.cell? ⟨b, 4, none⟩ = some (.int .u8 64)) (c5 : w.cell? ⟨b, 5, none⟩ = some (.int .u8 64)) (c6 : w.cell? ⟨b, 6, none⟩ = some (.int .u8 32)) (c7 : w.cell? ⟨b, 7, none⟩ = some (.int .u8 160)) (c8 : w.cell? ⟨b, 8, none⟩ = some (.int .u8 48)) (c9 : w.cell? ⟨b, 9, none⟩ = some (.int .u8 176)) (c10 : w.cell? ⟨b, 10, none⟩ = some (.int .u8 96)) (c11 : w.cell? ⟨b, 11, none⟩ = some (.int .u8 192)) (c12 : w.cell? ⟨b, 12, none⟩ = some (.int .u8 112)) (c13 : w.cell? ⟨b, 13, none⟩ = some (.int .u8 208)) : Calls Try.prog 102 #[.slice (some ⟨b, 0, none⟩) 14 14, .int .u8 op] w fun e w' => e = .returned (.tuple #[.int .u8 ((Cond.turned op).getD 0), .bool (Cond.turned op).isSome]) ∧ w = w' := by
  have e : Cond.turned op = none := by unfold Cond.turned; simp [n16, n80, n64, n32, n160, n48, n176, n96, n192, n112, n208]
  rw [e]; clear e
  have m16 : ((16 : Int) == op) = false := by simp; omega
  have m80 : ((80 : Int) == op) = false := by simp; omega
  have m64 : ((64 : Int) == op) = false := by simp; omega
  have m32 : ((32 : Int) == op) = false := by simp; omega
  have m160 : ((160 : Int) == op) = false := by simp; omega
  have m48 : ((48 : Int) == op) = false := by simp; omega
  have m176 : ((176 : Int) == op) = false := by simp; omega
  have m96 : ((96 : Int) == op) = false := by simp; omega
  have m192 : ((192 : Int) == op) = false := by simp; omega
  have m112 : ((112 : Int) == op) = false := by simp; omega
  have m208 : ((208 : Int) == op) = false := by simp; omega
  go_enter Try.func102, Try.ntmps102
  go_wp2
  refine wp_loop_rounds 8 ?_
  rw [rounds_succ]
  go_wp2
  rw [rounds_succ]
  go_wp2
  rw [rounds_succ]
  go_wp2
  rw [rounds_succ]
  go_wp2
  rw [rounds_succ]
  go_wp2
  rw [rounds_succ]
  go_wp2
  rw [rounds_succ]
  go_wp2
  rw [rounds_succ]
  go_wp2
  go_ret2
  exact ⟨rfl, rfl⟩

theorem rturnedp_c (op : Int) (b : Nat) (w : World) (c0 : w.cell? ⟨b, 0, none⟩ = some (.int .u8 16)) (c1 : w.cell? ⟨b, 1, none⟩ = some (.int .u8 16)) (c2 : w.cell? ⟨b, 2, none⟩ = some (.int .u8 80)) (c3 : w.cell? ⟨b, 3, none⟩ = some (.int .u8 80)) (c4 : w.cell? ⟨b, 4, none⟩ = some (.int .u8 64)) (c5 : w.cell? ⟨b, 5, none⟩ = some (.int .u8 64)) (c6 : w.cell? ⟨b, 6, none⟩ = some (.int .u8 32)) (c7 : w.cell? ⟨b, 7, none⟩ = some (.int .u8 160)) (c8 : w.cell? ⟨b, 8, none⟩ = some (.int .u8 48)) (c9 : w.cell? ⟨b, 9, none⟩ = some (.int .u8 176)) (c10 : w.cell? ⟨b, 10, none⟩ = some (.int .u8 96)) (c11 : w.cell? ⟨b, 11, none⟩ = some (.int .u8 192)) (c12 : w.cell? ⟨b, 12, none⟩ = some (.int .u8 112)) (c13 : w.cell? ⟨b, 13, none⟩ = some (.int .u8 208)) : Calls Try.prog 102 #[.slice (some ⟨b, 0, none⟩) 14 14, .int .u8 op] w fun e w' => e = .returned (.tuple #[.int .u8 ((Cond.turned op).getD 0), .bool (Cond.turned op).isSome]) ∧ w = w' := by
  by_cases n16 : op = 16
  · subst n16; exact rturnedp_16 b w c0 c1 c2 c3 c4 c5 c6 c7 c8 c9 c10 c11 c12 c13
  by_cases n80 : op = 80
  · subst n80; exact rturnedp_80 b w c0 c1 c2 c3 c4 c5 c6 c7 c8 c9 c10 c11 c12 c13
  by_cases n64 : op = 64
  · subst n64; exact rturnedp_64 b w c0 c1 c2 c3 c4 c5 c6 c7 c8 c9 c10 c11 c12 c13
  by_cases n32 : op = 32
  · subst n32; exact rturnedp_32 b w c0 c1 c2 c3 c4 c5 c6 c7 c8 c9 c10 c11 c12 c13
  by_cases n160 : op = 160
  · subst n160; exact rturnedp_160 b w c0 c1 c2 c3 c4 c5 c6 c7 c8 c9 c10 c11 c12 c13
  by_cases n48 : op = 48
  · subst n48; exact rturnedp_48 b w c0 c1 c2 c3 c4 c5 c6 c7 c8 c9 c10 c11 c12 c13
  by_cases n176 : op = 176
  · subst n176; exact rturnedp_176 b w c0 c1 c2 c3 c4 c5 c6 c7 c8 c9 c10 c11 c12 c13
  by_cases n96 : op = 96
  · subst n96; exact rturnedp_96 b w c0 c1 c2 c3 c4 c5 c6 c7 c8 c9 c10 c11 c12 c13
  by_cases n192 : op = 192
  · subst n192; exact rturnedp_192 b w c0 c1 c2 c3 c4 c5 c6 c7 c8 c9 c10 c11 c12 c13
  by_cases n112 : op = 112
  · subst n112; exact rturnedp_112 b w c0 c1 c2 c3 c4 c5 c6 c7 c8 c9 c10 c11 c12 c13
  by_cases n208 : op = 208
  · subst n208; exact rturnedp_208 b w c0 c1 c2 c3 c4 c5 c6 c7 c8 c9 c10 c11 c12 c13
  exact rturnedp_else op n16 n80 n64 n32 n160 n48 n176 n96 n192 n112 n208 b w c0 c1 c2 c3 c4 c5 c6 c7 c8 c9 c10 c11 c12 c13

theorem rturned_c (op : Int) (w : World) : Calls Try.prog 77 #[.int .u8 op] w fun e w' => e = .returned (.tuple #[.int .u8 ((Cond.turned op).getD 0), .bool (Cond.turned op).isSome]) ∧ Below w.heap.size w w' := by
  go_enter Try.func77, Try.ntmps77
  go_wp2_with (first | (go_at_call 102; (with_reducible refine (rturnedp_c _ _ _ (by simp [go_sem]) (by simp [go_sem]) (by simp [go_sem]) (by simp [go_sem]) (by simp [go_sem]) (by simp [go_sem]) (by simp [go_sem]) (by simp [go_sem]) (by simp [go_sem]) (by simp [go_sem]) (by simp [go_sem]) (by simp [go_sem]) (by simp [go_sem]) (by simp [go_sem])).mono ?_); rintro e w1 ⟨rfl, rfl⟩))
  go_ret2
  exact ⟨rfl, (by repeat' (first | (with_reducible exact Below.refl _ _) | (with_reducible assumption) | (with_reducible refine Below.alloc ?_ ?_ _) | (with_reducible refine Below.setCell ?_ ?_ _) | (with_reducible refine Below.drew ?_) | (with_reducible refine below_dn ?_ _) | (with_reducible refine Below.trans ?_ (Below.mono (by assumption) ?_)) | go_size))⟩

end Hk

