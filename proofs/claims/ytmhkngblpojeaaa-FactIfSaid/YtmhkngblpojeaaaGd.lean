/- Package cond: Is returns what the condition says; memory is as it was. No condition but those in each statement. Package cond: Turned returns what the conditions say; memory is as it was. No condition but those in each statement. -/
import Derived.Test.YtmhkngblpojeaaaProg
import Derived.Test.YtmhkngblpojeaaaGp
import Derived.Test.YtmhkngblpojeaaaGq
import Derived.Test.YtmhkngblpojeaaaGa
namespace Hk
open Go Go.RowKit Go.Proofs
set_option linter.unusedSimpArgs false
set_option linter.unusedVariables false
set_option maxRecDepth 100000
attribute [go_sem] Cond.val_some Cond.err_some Cond.val_none Cond.err_none
theorem nanU (x : BitVec 64) (w : World) : Calls Try.prog 115 #[.int .u64 (N x)] w fun e w' => e = .returned (.bool (false)) ∧ w = w' := by
  go_enter Try.func115, Try.ntmps115
  go_wp2
  go_ret
  exact ⟨rfl, rfl⟩

theorem nanI (x : Int) (w : World) : Calls Try.prog 116 #[.int .i64 x] w fun e w' => e = .returned (.bool (false)) ∧ w = w' := by
  go_enter Try.func116, Try.ntmps116
  go_wp2
  go_ret
  exact ⟨rfl, rfl⟩

theorem cmpU (x y : BitVec 64) (w : World) : Calls Try.prog 97 #[.int .u64 (N x), .int .u64 (N y)] w fun e w' => e = .returned (.int .i64 (Cond.ordU x y)) ∧ w = w' := by
  cases h1 : decide (x < y) <;> cases h2 : decide (y < x)
  all_goals
    go_enter Try.func97, Try.ntmps97
    go_wp2_with (first | (go_at_call 115; (with_reducible refine (nanU _ _).mono ?_); rintro e w1 ⟨rfl, rfl⟩) | (go_at_call 116; (with_reducible refine (nanI _ _).mono ?_); rintro e w1 ⟨rfl, rfl⟩))
    go_ret
    exact ⟨by unfold Cond.ordU; (first | rw [if_pos (of_decide_eq_true h1)] | rw [if_neg (of_decide_eq_false h1), if_pos (of_decide_eq_true h2)] | rw [if_neg (of_decide_eq_false h1), if_neg (of_decide_eq_false h2)]); rfl, rfl⟩

theorem cmpI (x y : Int) (w : World) : Calls Try.prog 98 #[.int .i64 x, .int .i64 y] w fun e w' => e = .returned (.int .i64 (Cond.ordI x y)) ∧ w = w' := by
  cases h1 : decide (x < y) <;> cases h2 : decide (y < x)
  all_goals
    go_enter Try.func98, Try.ntmps98
    go_wp2_with (first | (go_at_call 115; (with_reducible refine (nanU _ _).mono ?_); rintro e w1 ⟨rfl, rfl⟩) | (go_at_call 116; (with_reducible refine (nanI _ _).mono ?_); rintro e w1 ⟨rfl, rfl⟩))
    go_ret
    exact ⟨by unfold Cond.ordI; (first | rw [if_pos (of_decide_eq_true h1)] | rw [if_neg (of_decide_eq_false h1), if_pos (of_decide_eq_true h2)] | rw [if_neg (of_decide_eq_false h1), if_neg (of_decide_eq_false h2)]); rfl, rfl⟩

theorem cmpd_16 (o : Int) (ho : o = -1 ∨ o = 0 ∨ o = 1) (w : World) : Calls Try.prog 99 #[.int .u8 16, .int .i64 o] w fun e w' => e = .returned (.tuple #[.bool (Cond.cmpB 16 o), .bool (Cond.cmpOk 16)]) ∧ w = w' := by
  rcases ho with rfl | rfl | rfl
  all_goals
    go_enter Try.func99, Try.ntmps99
    go_wp2
    go_ret2
    exact ⟨rfl, rfl⟩

theorem cmpd_80 (o : Int) (ho : o = -1 ∨ o = 0 ∨ o = 1) (w : World) : Calls Try.prog 99 #[.int .u8 80, .int .i64 o] w fun e w' => e = .returned (.tuple #[.bool (Cond.cmpB 80 o), .bool (Cond.cmpOk 80)]) ∧ w = w' := by
  rcases ho with rfl | rfl | rfl
  all_goals
    go_enter Try.func99, Try.ntmps99
    go_wp2
    go_ret2
    exact ⟨rfl, rfl⟩

theorem cmpd_48 (o : Int) (ho : o = -1 ∨ o = 0 ∨ o = 1) (w : World) : Calls Try.prog 99 #[.int .u8 48, .int .i64 o] w fun e w' => e = .returned (.tuple #[.bool (Cond.cmpB 48 o), .bool (Cond.cmpOk 48)]) ∧ w = w' := by
  rcases ho with rfl | rfl | rfl
  all_goals
    go_enter Try.func99, Try.ntmps99
    go_wp2
    go_ret2
    exact ⟨rfl, rfl⟩

theorem cmpd_112 (o : Int) (ho : o = -1 ∨ o = 0 ∨ o = 1) (w : World) : Calls Try.prog 99 #[.int .u8 112, .int .i64 o] w fun e w' => e = .returned (.tuple #[.bool (Cond.cmpB 112 o), .bool (Cond.cmpOk 112)]) ∧ w = w' := by
  rcases ho with rfl | rfl | rfl
  all_goals
    go_enter Try.func99, Try.ntmps99
    go_wp2
    go_ret2
    exact ⟨rfl, rfl⟩

theorem cmpd_32 (o : Int) (ho : o = -1 ∨ o = 0 ∨ o = 1) (w : World) : Calls Try.prog 99 #[.int .u8 32, .int .i64 o] w fun e w' => e = .returned (.tuple #[.bool (Cond.cmpB 32 o), .bool (Cond.cmpOk 32)]) ∧ w = w' := by
  rcases ho with rfl | rfl | rfl
  all_goals
    go_enter Try.func99, Try.ntmps99
    go_wp2
    go_ret2
    exact ⟨rfl, rfl⟩

theorem cmpd_96 (o : Int) (ho : o = -1 ∨ o = 0 ∨ o = 1) (w : World) : Calls Try.prog 99 #[.int .u8 96, .int .i64 o] w fun e w' => e = .returned (.tuple #[.bool (Cond.cmpB 96 o), .bool (Cond.cmpOk 96)]) ∧ w = w' := by
  rcases ho with rfl | rfl | rfl
  all_goals
    go_enter Try.func99, Try.ntmps99
    go_wp2
    go_ret2
    exact ⟨rfl, rfl⟩

theorem cmpd_176 (o : Int) (ho : o = -1 ∨ o = 0 ∨ o = 1) (w : World) : Calls Try.prog 99 #[.int .u8 176, .int .i64 o] w fun e w' => e = .returned (.tuple #[.bool (Cond.cmpB 176 o), .bool (Cond.cmpOk 176)]) ∧ w = w' := by
  rcases ho with rfl | rfl | rfl
  all_goals
    go_enter Try.func99, Try.ntmps99
    go_wp2
    go_ret2
    exact ⟨rfl, rfl⟩

theorem cmpd_208 (o : Int) (ho : o = -1 ∨ o = 0 ∨ o = 1) (w : World) : Calls Try.prog 99 #[.int .u8 208, .int .i64 o] w fun e w' => e = .returned (.tuple #[.bool (Cond.cmpB 208 o), .bool (Cond.cmpOk 208)]) ∧ w = w' := by
  rcases ho with rfl | rfl | rfl
  all_goals
    go_enter Try.func99, Try.ntmps99
    go_wp2
    go_ret2
    exact ⟨rfl, rfl⟩

theorem cmpd_160 (o : Int) (ho : o = -1 ∨ o = 0 ∨ o = 1) (w : World) : Calls Try.prog 99 #[.int .u8 160, .int .i64 o] w fun e w' => e = .returned (.tuple #[.bool (Cond.cmpB 160 o), .bool (Cond.cmpOk 160)]) ∧ w = w' := by
  rcases ho with rfl | rfl | rfl
  all_goals
    go_enter Try.func99, Try.ntmps99
    go_wp2
    go_ret2
    exact ⟨rfl, rfl⟩

theorem cmpd_192 (o : Int) (ho : o = -1 ∨ o = 0 ∨ o = 1) (w : World) : Calls Try.prog 99 #[.int .u8 192, .int .i64 o] w fun e w' => e = .returned (.tuple #[.bool (Cond.cmpB 192 o), .bool (Cond.cmpOk 192)]) ∧ w = w' := by
  rcases ho with rfl | rfl | rfl
  all_goals
    go_enter Try.func99, Try.ntmps99
    go_wp2
    go_ret2
    exact ⟨rfl, rfl⟩

theorem cmpd_else (op o : Int) (n16 : ¬ op = 16) (n80 : ¬ op = 80) (n48 : ¬ op = 48) (n112 : ¬ op = 112) (n32 : ¬ op = 32) (n96 : ¬ op = 96) (n176 : ¬ op = 176) (n208 : ¬ op = 208) (n160 : ¬ op = 160) (n192 : ¬ op = 192) (w : World) : Calls Try.prog 99 #[.int .u8 op, .int .i64 o] w fun e w' => e = .returned (.tuple #[.bool (Cond.cmpB op o), .bool (Cond.cmpOk op)]) ∧ w = w' := by
  have e1 : Cond.cmpB op o = false := by unfold Cond.cmpB; simp [n16, n80, n48, n112, n32, n96, n176, n208, n160, n192]
  have e2 : Cond.cmpOk op = false := by unfold Cond.cmpOk; simp [n16, n80, n48, n112, n32, n96, n176, n208, n160, n192]
  rw [e1, e2]; clear e1 e2
  go_enter Try.func99, Try.ntmps99
  go_wp2
  go_ret2
  exact ⟨rfl, rfl⟩

theorem cmpd (op o : Int) (ho : o = -1 ∨ o = 0 ∨ o = 1) (w : World) : Calls Try.prog 99 #[.int .u8 op, .int .i64 o] w fun e w' => e = .returned (.tuple #[.bool (Cond.cmpB op o), .bool (Cond.cmpOk op)]) ∧ w = w' := by
  by_cases n16 : op = 16
  · subst n16; exact cmpd_16 o ho w
  by_cases n80 : op = 80
  · subst n80; exact cmpd_80 o ho w
  by_cases n48 : op = 48
  · subst n48; exact cmpd_48 o ho w
  by_cases n112 : op = 112
  · subst n112; exact cmpd_112 o ho w
  by_cases n32 : op = 32
  · subst n32; exact cmpd_32 o ho w
  by_cases n96 : op = 96
  · subst n96; exact cmpd_96 o ho w
  by_cases n176 : op = 176
  · subst n176; exact cmpd_176 o ho w
  by_cases n208 : op = 208
  · subst n208; exact cmpd_208 o ho w
  by_cases n160 : op = 160
  · subst n160; exact cmpd_160 o ho w
  by_cases n192 : op = 192
  · subst n192; exact cmpd_192 o ho w
  exact cmpd_else op o n16 n80 n48 n112 n32 n96 n176 n208 n160 n192 w

theorem cis_0t (a b : BitVec 64) (w : World) : Calls Try.prog 72 #[.int .u8 0, .bool (true), .int .u64 (N a), .int .u64 (N b)] w fun e w' => e = .returned (.tuple #[.bool (Cond.val (Cond.is 0 true a b)), .int .i64 (Cond.err (Cond.is 0 true a b))]) ∧ w = w' := by
  rw [Cond.is_0 true a b]
  simp only [Cond.val_some, Cond.err_some, Cond.val_none, Cond.err_none]
  go_enter Try.func72, Try.ntmps72
  go_wp2_with (first | (go_at_call 97; (with_reducible refine (cmpU _ _ _).mono ?_); rintro e w1 ⟨rfl, rfl⟩) | (go_at_call 98; (with_reducible refine (cmpI _ _ _).mono ?_); rintro e w1 ⟨rfl, rfl⟩) | (go_at_call 99; (with_reducible refine (cmpd _ _ (by first | exact Cond.ordU_3 _ _ | exact Cond.ordI_3 _ _) _).mono ?_); rintro e w1 ⟨rfl, rfl⟩) | (go_at_call 83; (with_reducible refine (sign_c _ _ _).mono ?_); rintro e w1 ⟨rfl, rfl⟩))
  go_ret2
  exact ⟨rfl, rfl⟩

theorem cis_64t (a b : BitVec 64) (w : World) : Calls Try.prog 72 #[.int .u8 64, .bool (true), .int .u64 (N a), .int .u64 (N b)] w fun e w' => e = .returned (.tuple #[.bool (Cond.val (Cond.is 64 true a b)), .int .i64 (Cond.err (Cond.is 64 true a b))]) ∧ w = w' := by
  rw [Cond.is_64 true a b]
  simp only [Cond.val_some, Cond.err_some, Cond.val_none, Cond.err_none]
  go_enter Try.func72, Try.ntmps72
  go_wp2_with (first | (go_at_call 97; (with_reducible refine (cmpU _ _ _).mono ?_); rintro e w1 ⟨rfl, rfl⟩) | (go_at_call 98; (with_reducible refine (cmpI _ _ _).mono ?_); rintro e w1 ⟨rfl, rfl⟩) | (go_at_call 99; (with_reducible refine (cmpd _ _ (by first | exact Cond.ordU_3 _ _ | exact Cond.ordI_3 _ _) _).mono ?_); rintro e w1 ⟨rfl, rfl⟩) | (go_at_call 83; (with_reducible refine (sign_c _ _ _).mono ?_); rintro e w1 ⟨rfl, rfl⟩))
  go_ret2
  exact ⟨rfl, rfl⟩

theorem cis_96t (a b : BitVec 64) (w : World) : Calls Try.prog 72 #[.int .u8 96, .bool (true), .int .u64 (N a), .int .u64 (N b)] w fun e w' => e = .returned (.tuple #[.bool (Cond.val (Cond.is 96 true a b)), .int .i64 (Cond.err (Cond.is 96 true a b))]) ∧ w = w' := by
  rw [Cond.is_s (op := 96) rfl true a b]
  have hk : Cond.cmpOk 96 = true := rfl
  simp only [Cond.val_some, Cond.err_some, Cond.val_none, Cond.err_none]
  go_enter Try.func72, Try.ntmps72
  go_wp2_with (first | (go_at_call 97; (with_reducible refine (cmpU _ _ _).mono ?_); rintro e w1 ⟨rfl, rfl⟩) | (go_at_call 98; (with_reducible refine (cmpI _ _ _).mono ?_); rintro e w1 ⟨rfl, rfl⟩) | (go_at_call 99; (with_reducible refine (cmpd _ _ (by first | exact Cond.ordU_3 _ _ | exact Cond.ordI_3 _ _) _).mono ?_); rintro e w1 ⟨rfl, rfl⟩) | (go_at_call 83; (with_reducible refine (sign_c _ _ _).mono ?_); rintro e w1 ⟨rfl, rfl⟩))
  go_ret2
  exact ⟨rfl, rfl⟩

theorem cis_112t (a b : BitVec 64) (w : World) : Calls Try.prog 72 #[.int .u8 112, .bool (true), .int .u64 (N a), .int .u64 (N b)] w fun e w' => e = .returned (.tuple #[.bool (Cond.val (Cond.is 112 true a b)), .int .i64 (Cond.err (Cond.is 112 true a b))]) ∧ w = w' := by
  rw [Cond.is_s (op := 112) rfl true a b]
  have hk : Cond.cmpOk 112 = true := rfl
  simp only [Cond.val_some, Cond.err_some, Cond.val_none, Cond.err_none]
  go_enter Try.func72, Try.ntmps72
  go_wp2_with (first | (go_at_call 97; (with_reducible refine (cmpU _ _ _).mono ?_); rintro e w1 ⟨rfl, rfl⟩) | (go_at_call 98; (with_reducible refine (cmpI _ _ _).mono ?_); rintro e w1 ⟨rfl, rfl⟩) | (go_at_call 99; (with_reducible refine (cmpd _ _ (by first | exact Cond.ordU_3 _ _ | exact Cond.ordI_3 _ _) _).mono ?_); rintro e w1 ⟨rfl, rfl⟩) | (go_at_call 83; (with_reducible refine (sign_c _ _ _).mono ?_); rintro e w1 ⟨rfl, rfl⟩))
  go_ret2
  exact ⟨rfl, rfl⟩

theorem cis_192t (a b : BitVec 64) (w : World) : Calls Try.prog 72 #[.int .u8 192, .bool (true), .int .u64 (N a), .int .u64 (N b)] w fun e w' => e = .returned (.tuple #[.bool (Cond.val (Cond.is 192 true a b)), .int .i64 (Cond.err (Cond.is 192 true a b))]) ∧ w = w' := by
  rw [Cond.is_s (op := 192) rfl true a b]
  have hk : Cond.cmpOk 192 = true := rfl
  simp only [Cond.val_some, Cond.err_some, Cond.val_none, Cond.err_none]
  go_enter Try.func72, Try.ntmps72
  go_wp2_with (first | (go_at_call 97; (with_reducible refine (cmpU _ _ _).mono ?_); rintro e w1 ⟨rfl, rfl⟩) | (go_at_call 98; (with_reducible refine (cmpI _ _ _).mono ?_); rintro e w1 ⟨rfl, rfl⟩) | (go_at_call 99; (with_reducible refine (cmpd _ _ (by first | exact Cond.ordU_3 _ _ | exact Cond.ordI_3 _ _) _).mono ?_); rintro e w1 ⟨rfl, rfl⟩) | (go_at_call 83; (with_reducible refine (sign_c _ _ _).mono ?_); rintro e w1 ⟨rfl, rfl⟩))
  go_ret2
  exact ⟨rfl, rfl⟩

theorem cis_208t (a b : BitVec 64) (w : World) : Calls Try.prog 72 #[.int .u8 208, .bool (true), .int .u64 (N a), .int .u64 (N b)] w fun e w' => e = .returned (.tuple #[.bool (Cond.val (Cond.is 208 true a b)), .int .i64 (Cond.err (Cond.is 208 true a b))]) ∧ w = w' := by
  rw [Cond.is_s (op := 208) rfl true a b]
  have hk : Cond.cmpOk 208 = true := rfl
  simp only [Cond.val_some, Cond.err_some, Cond.val_none, Cond.err_none]
  go_enter Try.func72, Try.ntmps72
  go_wp2_with (first | (go_at_call 97; (with_reducible refine (cmpU _ _ _).mono ?_); rintro e w1 ⟨rfl, rfl⟩) | (go_at_call 98; (with_reducible refine (cmpI _ _ _).mono ?_); rintro e w1 ⟨rfl, rfl⟩) | (go_at_call 99; (with_reducible refine (cmpd _ _ (by first | exact Cond.ordU_3 _ _ | exact Cond.ordI_3 _ _) _).mono ?_); rintro e w1 ⟨rfl, rfl⟩) | (go_at_call 83; (with_reducible refine (sign_c _ _ _).mono ?_); rintro e w1 ⟨rfl, rfl⟩))
  go_ret2
  exact ⟨rfl, rfl⟩

theorem cis_utt (op : Int) (n0 : ¬ op = 0) (n64 : ¬ op = 64) (n96 : ¬ op = 96) (n112 : ¬ op = 112) (n192 : ¬ op = 192) (n208 : ¬ op = 208) (hk : Cond.cmpOk op = true) (a b : BitVec 64) (w : World) : Calls Try.prog 72 #[.int .u8 op, .bool (true), .int .u64 (N a), .int .u64 (N b)] w fun e w' => e = .returned (.tuple #[.bool (Cond.val (Cond.is op true a b)), .int .i64 (Cond.err (Cond.is op true a b))]) ∧ w = w' := by
  rw [Cond.is_u n0 n64 (by simp [Cond.signed, n96, n112, n192, n208]) true a b, hk, if_pos rfl]
  simp only [Cond.val_some, Cond.err_some, Cond.val_none, Cond.err_none]
  go_enter Try.func72, Try.ntmps72
  go_wp2_with (first | (go_at_call 97; (with_reducible refine (cmpU _ _ _).mono ?_); rintro e w1 ⟨rfl, rfl⟩) | (go_at_call 98; (with_reducible refine (cmpI _ _ _).mono ?_); rintro e w1 ⟨rfl, rfl⟩) | (go_at_call 99; (with_reducible refine (cmpd _ _ (by first | exact Cond.ordU_3 _ _ | exact Cond.ordI_3 _ _) _).mono ?_); rintro e w1 ⟨rfl, rfl⟩) | (go_at_call 83; (with_reducible refine (sign_c _ _ _).mono ?_); rintro e w1 ⟨rfl, rfl⟩))
  go_ret2
  exact ⟨rfl, rfl⟩

theorem cis_utf (op : Int) (n0 : ¬ op = 0) (n64 : ¬ op = 64) (n96 : ¬ op = 96) (n112 : ¬ op = 112) (n192 : ¬ op = 192) (n208 : ¬ op = 208) (hk : Cond.cmpOk op = false) (a b : BitVec 64) (w : World) : Calls Try.prog 72 #[.int .u8 op, .bool (true), .int .u64 (N a), .int .u64 (N b)] w fun e w' => e = .returned (.tuple #[.bool (Cond.val (Cond.is op true a b)), .int .i64 (Cond.err (Cond.is op true a b))]) ∧ w = w' := by
  rw [Cond.is_u n0 n64 (by simp [Cond.signed, n96, n112, n192, n208]) true a b, hk, if_neg (by decide)]
  simp only [Cond.val_some, Cond.err_some, Cond.val_none, Cond.err_none]
  go_enter Try.func72, Try.ntmps72
  go_wp2_with (first | (go_at_call 97; (with_reducible refine (cmpU _ _ _).mono ?_); rintro e w1 ⟨rfl, rfl⟩) | (go_at_call 98; (with_reducible refine (cmpI _ _ _).mono ?_); rintro e w1 ⟨rfl, rfl⟩) | (go_at_call 99; (with_reducible refine (cmpd _ _ (by first | exact Cond.ordU_3 _ _ | exact Cond.ordI_3 _ _) _).mono ?_); rintro e w1 ⟨rfl, rfl⟩) | (go_at_call 83; (with_reducible refine (sign_c _ _ _).mono ?_); rintro e w1 ⟨rfl, rfl⟩))
  go_ret2
  exact ⟨rfl, rfl⟩

theorem cis_0f (a b : BitVec 64) (w : World) : Calls Try.prog 72 #[.int .u8 0, .bool (false), .int .u64 (N a), .int .u64 (N b)] w fun e w' => e = .returned (.tuple #[.bool (Cond.val (Cond.is 0 false a b)), .int .i64 (Cond.err (Cond.is 0 false a b))]) ∧ w = w' := by
  rw [Cond.is_0 false a b]
  simp only [Cond.val_some, Cond.err_some, Cond.val_none, Cond.err_none]
  go_enter Try.func72, Try.ntmps72
  go_wp2_with (first | (go_at_call 97; (with_reducible refine (cmpU _ _ _).mono ?_); rintro e w1 ⟨rfl, rfl⟩) | (go_at_call 98; (with_reducible refine (cmpI _ _ _).mono ?_); rintro e w1 ⟨rfl, rfl⟩) | (go_at_call 99; (with_reducible refine (cmpd _ _ (by first | exact Cond.ordU_3 _ _ | exact Cond.ordI_3 _ _) _).mono ?_); rintro e w1 ⟨rfl, rfl⟩) | (go_at_call 83; (with_reducible refine (sign_c _ _ _).mono ?_); rintro e w1 ⟨rfl, rfl⟩))
  go_ret2
  exact ⟨rfl, rfl⟩

theorem cis_64f (a b : BitVec 64) (w : World) : Calls Try.prog 72 #[.int .u8 64, .bool (false), .int .u64 (N a), .int .u64 (N b)] w fun e w' => e = .returned (.tuple #[.bool (Cond.val (Cond.is 64 false a b)), .int .i64 (Cond.err (Cond.is 64 false a b))]) ∧ w = w' := by
  rw [Cond.is_64 false a b]
  simp only [Cond.val_some, Cond.err_some, Cond.val_none, Cond.err_none]
  go_enter Try.func72, Try.ntmps72
  go_wp2_with (first | (go_at_call 97; (with_reducible refine (cmpU _ _ _).mono ?_); rintro e w1 ⟨rfl, rfl⟩) | (go_at_call 98; (with_reducible refine (cmpI _ _ _).mono ?_); rintro e w1 ⟨rfl, rfl⟩) | (go_at_call 99; (with_reducible refine (cmpd _ _ (by first | exact Cond.ordU_3 _ _ | exact Cond.ordI_3 _ _) _).mono ?_); rintro e w1 ⟨rfl, rfl⟩) | (go_at_call 83; (with_reducible refine (sign_c _ _ _).mono ?_); rintro e w1 ⟨rfl, rfl⟩))
  go_ret2
  exact ⟨rfl, rfl⟩

theorem cis_96f (a b : BitVec 64) (w : World) : Calls Try.prog 72 #[.int .u8 96, .bool (false), .int .u64 (N a), .int .u64 (N b)] w fun e w' => e = .returned (.tuple #[.bool (Cond.val (Cond.is 96 false a b)), .int .i64 (Cond.err (Cond.is 96 false a b))]) ∧ w = w' := by
  rw [Cond.is_s (op := 96) rfl false a b]
  have hk : Cond.cmpOk 96 = true := rfl
  simp only [Cond.val_some, Cond.err_some, Cond.val_none, Cond.err_none]
  go_enter Try.func72, Try.ntmps72
  go_wp2_with (first | (go_at_call 97; (with_reducible refine (cmpU _ _ _).mono ?_); rintro e w1 ⟨rfl, rfl⟩) | (go_at_call 98; (with_reducible refine (cmpI _ _ _).mono ?_); rintro e w1 ⟨rfl, rfl⟩) | (go_at_call 99; (with_reducible refine (cmpd _ _ (by first | exact Cond.ordU_3 _ _ | exact Cond.ordI_3 _ _) _).mono ?_); rintro e w1 ⟨rfl, rfl⟩) | (go_at_call 83; (with_reducible refine (sign_c _ _ _).mono ?_); rintro e w1 ⟨rfl, rfl⟩))
  go_ret2
  exact ⟨rfl, rfl⟩

theorem cis_112f (a b : BitVec 64) (w : World) : Calls Try.prog 72 #[.int .u8 112, .bool (false), .int .u64 (N a), .int .u64 (N b)] w fun e w' => e = .returned (.tuple #[.bool (Cond.val (Cond.is 112 false a b)), .int .i64 (Cond.err (Cond.is 112 false a b))]) ∧ w = w' := by
  rw [Cond.is_s (op := 112) rfl false a b]
  have hk : Cond.cmpOk 112 = true := rfl
  simp only [Cond.val_some, Cond.err_some, Cond.val_none, Cond.err_none]
  go_enter Try.func72, Try.ntmps72
  go_wp2_with (first | (go_at_call 97; (with_reducible refine (cmpU _ _ _).mono ?_); rintro e w1 ⟨rfl, rfl⟩) | (go_at_call 98; (with_reducible refine (cmpI _ _ _).mono ?_); rintro e w1 ⟨rfl, rfl⟩) | (go_at_call 99; (with_reducible refine (cmpd _ _ (by first | exact Cond.ordU_3 _ _ | exact Cond.ordI_3 _ _) _).mono ?_); rintro e w1 ⟨rfl, rfl⟩) | (go_at_call 83; (with_reducible refine (sign_c _ _ _).mono ?_); rintro e w1 ⟨rfl, rfl⟩))
  go_ret2
  exact ⟨rfl, rfl⟩

theorem cis_192f (a b : BitVec 64) (w : World) : Calls Try.prog 72 #[.int .u8 192, .bool (false), .int .u64 (N a), .int .u64 (N b)] w fun e w' => e = .returned (.tuple #[.bool (Cond.val (Cond.is 192 false a b)), .int .i64 (Cond.err (Cond.is 192 false a b))]) ∧ w = w' := by
  rw [Cond.is_s (op := 192) rfl false a b]
  have hk : Cond.cmpOk 192 = true := rfl
  simp only [Cond.val_some, Cond.err_some, Cond.val_none, Cond.err_none]
  go_enter Try.func72, Try.ntmps72
  go_wp2_with (first | (go_at_call 97; (with_reducible refine (cmpU _ _ _).mono ?_); rintro e w1 ⟨rfl, rfl⟩) | (go_at_call 98; (with_reducible refine (cmpI _ _ _).mono ?_); rintro e w1 ⟨rfl, rfl⟩) | (go_at_call 99; (with_reducible refine (cmpd _ _ (by first | exact Cond.ordU_3 _ _ | exact Cond.ordI_3 _ _) _).mono ?_); rintro e w1 ⟨rfl, rfl⟩) | (go_at_call 83; (with_reducible refine (sign_c _ _ _).mono ?_); rintro e w1 ⟨rfl, rfl⟩))
  go_ret2
  exact ⟨rfl, rfl⟩

theorem cis_208f (a b : BitVec 64) (w : World) : Calls Try.prog 72 #[.int .u8 208, .bool (false), .int .u64 (N a), .int .u64 (N b)] w fun e w' => e = .returned (.tuple #[.bool (Cond.val (Cond.is 208 false a b)), .int .i64 (Cond.err (Cond.is 208 false a b))]) ∧ w = w' := by
  rw [Cond.is_s (op := 208) rfl false a b]
  have hk : Cond.cmpOk 208 = true := rfl
  simp only [Cond.val_some, Cond.err_some, Cond.val_none, Cond.err_none]
  go_enter Try.func72, Try.ntmps72
  go_wp2_with (first | (go_at_call 97; (with_reducible refine (cmpU _ _ _).mono ?_); rintro e w1 ⟨rfl, rfl⟩) | (go_at_call 98; (with_reducible refine (cmpI _ _ _).mono ?_); rintro e w1 ⟨rfl, rfl⟩) | (go_at_call 99; (with_reducible refine (cmpd _ _ (by first | exact Cond.ordU_3 _ _ | exact Cond.ordI_3 _ _) _).mono ?_); rintro e w1 ⟨rfl, rfl⟩) | (go_at_call 83; (with_reducible refine (sign_c _ _ _).mono ?_); rintro e w1 ⟨rfl, rfl⟩))
  go_ret2
  exact ⟨rfl, rfl⟩

theorem cis_uft (op : Int) (n0 : ¬ op = 0) (n64 : ¬ op = 64) (n96 : ¬ op = 96) (n112 : ¬ op = 112) (n192 : ¬ op = 192) (n208 : ¬ op = 208) (hk : Cond.cmpOk op = true) (a b : BitVec 64) (w : World) : Calls Try.prog 72 #[.int .u8 op, .bool (false), .int .u64 (N a), .int .u64 (N b)] w fun e w' => e = .returned (.tuple #[.bool (Cond.val (Cond.is op false a b)), .int .i64 (Cond.err (Cond.is op false a b))]) ∧ w = w' := by
  rw [Cond.is_u n0 n64 (by simp [Cond.signed, n96, n112, n192, n208]) false a b, hk, if_pos rfl]
  simp only [Cond.val_some, Cond.err_some, Cond.val_none, Cond.err_none]
  go_enter Try.func72, Try.ntmps72
  go_wp2_with (first | (go_at_call 97; (with_reducible refine (cmpU _ _ _).mono ?_); rintro e w1 ⟨rfl, rfl⟩) | (go_at_call 98; (with_reducible refine (cmpI _ _ _).mono ?_); rintro e w1 ⟨rfl, rfl⟩) | (go_at_call 99; (with_reducible refine (cmpd _ _ (by first | exact Cond.ordU_3 _ _ | exact Cond.ordI_3 _ _) _).mono ?_); rintro e w1 ⟨rfl, rfl⟩) | (go_at_call 83; (with_reducible refine (sign_c _ _ _).mono ?_); rintro e w1 ⟨rfl, rfl⟩))
  go_ret2
  exact ⟨rfl, rfl⟩

theorem cis_uff (op : Int) (n0 : ¬ op = 0) (n64 : ¬ op = 64) (n96 : ¬ op = 96) (n112 : ¬ op = 112) (n192 : ¬ op = 192) (n208 : ¬ op = 208) (hk : Cond.cmpOk op = false) (a b : BitVec 64) (w : World) : Calls Try.prog 72 #[.int .u8 op, .bool (false), .int .u64 (N a), .int .u64 (N b)] w fun e w' => e = .returned (.tuple #[.bool (Cond.val (Cond.is op false a b)), .int .i64 (Cond.err (Cond.is op false a b))]) ∧ w = w' := by
  rw [Cond.is_u n0 n64 (by simp [Cond.signed, n96, n112, n192, n208]) false a b, hk, if_neg (by decide)]
  simp only [Cond.val_some, Cond.err_some, Cond.val_none, Cond.err_none]
  go_enter Try.func72, Try.ntmps72
  go_wp2_with (first | (go_at_call 97; (with_reducible refine (cmpU _ _ _).mono ?_); rintro e w1 ⟨rfl, rfl⟩) | (go_at_call 98; (with_reducible refine (cmpI _ _ _).mono ?_); rintro e w1 ⟨rfl, rfl⟩) | (go_at_call 99; (with_reducible refine (cmpd _ _ (by first | exact Cond.ordU_3 _ _ | exact Cond.ordI_3 _ _) _).mono ?_); rintro e w1 ⟨rfl, rfl⟩) | (go_at_call 83; (with_reducible refine (sign_c _ _ _).mono ?_); rintro e w1 ⟨rfl, rfl⟩))
  go_ret2
  exact ⟨rfl, rfl⟩

theorem cis_c (op : Int) (wd : Bool) (a b : BitVec 64) (w : World) : Calls Try.prog 72 #[.int .u8 op, .bool (wd), .int .u64 (N a), .int .u64 (N b)] w fun e w' => e = .returned (.tuple #[.bool (Cond.val (Cond.is op wd a b)), .int .i64 (Cond.err (Cond.is op wd a b))]) ∧ w = w' := by
  by_cases n0 : op = 0
  · subst n0; cases wd
    · exact cis_0f a b w
    · exact cis_0t a b w
  by_cases n64 : op = 64
  · subst n64; cases wd
    · exact cis_64f a b w
    · exact cis_64t a b w
  by_cases n96 : op = 96
  · subst n96; cases wd
    · exact cis_96f a b w
    · exact cis_96t a b w
  by_cases n112 : op = 112
  · subst n112; cases wd
    · exact cis_112f a b w
    · exact cis_112t a b w
  by_cases n192 : op = 192
  · subst n192; cases wd
    · exact cis_192f a b w
    · exact cis_192t a b w
  by_cases n208 : op = 208
  · subst n208; cases wd
    · exact cis_208f a b w
    · exact cis_208t a b w
  cases hk : Cond.cmpOk op <;> cases wd
  · exact cis_uff op n0 n64 n96 n112 n192 n208 hk a b w
  · exact cis_utf op n0 n64 n96 n112 n192 n208 hk a b w
  · exact cis_uft op n0 n64 n96 n112 n192 n208 hk a b w
  · exact cis_utt op n0 n64 n96 n112 n192 n208 hk a b w

end Hk

namespace Hk
open Go Go.RowKit Go.Proofs
set_option linter.unusedSimpArgs false
set_option linter.unusedVariables false
set_option maxRecDepth 100000
theorem cturned_16  (w : World) : Calls Try.prog 101 #[.int .u8 16] w fun e w' => e = .returned (.tuple #[.int .u8 ((Cond.turned 16).getD 0), .bool (Cond.turned 16).isSome]) ∧ w = w' := by
  go_enter Try.func101, Try.ntmps101
  go_wp2
  go_ret2
  exact ⟨rfl, rfl⟩

theorem cturned_80  (w : World) : Calls Try.prog 101 #[.int .u8 80] w fun e w' => e = .returned (.tuple #[.int .u8 ((Cond.turned 80).getD 0), .bool (Cond.turned 80).isSome]) ∧ w = w' := by
  go_enter Try.func101, Try.ntmps101
  go_wp2
  go_ret2
  exact ⟨rfl, rfl⟩

theorem cturned_64  (w : World) : Calls Try.prog 101 #[.int .u8 64] w fun e w' => e = .returned (.tuple #[.int .u8 ((Cond.turned 64).getD 0), .bool (Cond.turned 64).isSome]) ∧ w = w' := by
  go_enter Try.func101, Try.ntmps101
  go_wp2
  go_ret2
  exact ⟨rfl, rfl⟩

theorem cturned_32  (w : World) : Calls Try.prog 101 #[.int .u8 32] w fun e w' => e = .returned (.tuple #[.int .u8 ((Cond.turned 32).getD 0), .bool (Cond.turned 32).isSome]) ∧ w = w' := by
  go_enter Try.func101, Try.ntmps101
  go_wp2
  go_ret2
  exact ⟨rfl, rfl⟩

theorem cturned_160  (w : World) : Calls Try.prog 101 #[.int .u8 160] w fun e w' => e = .returned (.tuple #[.int .u8 ((Cond.turned 160).getD 0), .bool (Cond.turned 160).isSome]) ∧ w = w' := by
  go_enter Try.func101, Try.ntmps101
  go_wp2
  go_ret2
  exact ⟨rfl, rfl⟩

theorem cturned_48  (w : World) : Calls Try.prog 101 #[.int .u8 48] w fun e w' => e = .returned (.tuple #[.int .u8 ((Cond.turned 48).getD 0), .bool (Cond.turned 48).isSome]) ∧ w = w' := by
  go_enter Try.func101, Try.ntmps101
  go_wp2
  go_ret2
  exact ⟨rfl, rfl⟩

theorem cturned_176  (w : World) : Calls Try.prog 101 #[.int .u8 176] w fun e w' => e = .returned (.tuple #[.int .u8 ((Cond.turned 176).getD 0), .bool (Cond.turned 176).isSome]) ∧ w = w' := by
  go_enter Try.func101, Try.ntmps101
  go_wp2
  go_ret2
  exact ⟨rfl, rfl⟩

theorem cturned_96  (w : World) : Calls Try.prog 101 #[.int .u8 96] w fun e w' => e = .returned (.tuple #[.int .u8 ((Cond.turned 96).getD 0), .bool (Cond.turned 96).isSome]) ∧ w = w' := by
  go_enter Try.func101, Try.ntmps101
  go_wp2
  go_ret2
  exact ⟨rfl, rfl⟩

theorem cturned_192  (w : World) : Calls Try.prog 101 #[.int .u8 192] w fun e w' => e = .returned (.tuple #[.int .u8 ((Cond.turned 192).getD 0), .bool (Cond.turned 192).isSome]) ∧ w = w' := by
  go_enter Try.func101, Try.ntmps101
  go_wp2
  go_ret2
  exact ⟨rfl, rfl⟩

theorem cturned_112  (w : World) : Calls Try.prog 101 #[.int .u8 112] w fun e w' => e = .returned (.tuple #[.int .u8 ((Cond.turned 112).getD 0), .bool (Cond.turned 112).isSome]) ∧ w = w' := by
  go_enter Try.func101, Try.ntmps101
  go_wp2
  go_ret2
  exact ⟨rfl, rfl⟩

theorem cturned_208  (w : World) : Calls Try.prog 101 #[.int .u8 208] w fun e w' => e = .returned (.tuple #[.int .u8 ((Cond.turned 208).getD 0), .bool (Cond.turned 208).isSome]) ∧ w = w' := by
  go_enter Try.func101, Try.ntmps101
  go_wp2
  go_ret2
  exact ⟨rfl, rfl⟩

theorem cturned_else (op : Int) (n16 : ¬ op = 16) (n80 : ¬ op = 80) (n64 : ¬ op = 64) (n32 : ¬ op = 32) (n160 : ¬ op = 160) (n48 : ¬ op = 48) (n176 : ¬ op = 176) (n96 : ¬ op = 96) (n192 : ¬ op = 192) (n112 : ¬ op = 112) (n208 : ¬ op = 208) (w : World) : Calls Try.prog 101 #[.int .u8 op] w fun e w' => e = .returned (.tuple #[.int .u8 ((Cond.turned op).getD 0), .bool (Cond.turned op).isSome]) ∧ w = w' := by
  have e : Cond.turned op = none := by unfold Cond.turned; simp [n16, n80, n64, n32, n160, n48, n176, n96, n192, n112, n208]
  rw [e]; clear e
  go_enter Try.func101, Try.ntmps101
  go_wp2
  go_ret2
  exact ⟨rfl, rfl⟩

theorem cturned_c (op : Int) (w : World) : Calls Try.prog 101 #[.int .u8 op] w fun e w' => e = .returned (.tuple #[.int .u8 ((Cond.turned op).getD 0), .bool (Cond.turned op).isSome]) ∧ w = w' := by
  by_cases n16 : op = 16
  · subst n16; exact cturned_16 w
  by_cases n80 : op = 80
  · subst n80; exact cturned_80 w
  by_cases n64 : op = 64
  · subst n64; exact cturned_64 w
  by_cases n32 : op = 32
  · subst n32; exact cturned_32 w
  by_cases n160 : op = 160
  · subst n160; exact cturned_160 w
  by_cases n48 : op = 48
  · subst n48; exact cturned_48 w
  by_cases n176 : op = 176
  · subst n176; exact cturned_176 w
  by_cases n96 : op = 96
  · subst n96; exact cturned_96 w
  by_cases n192 : op = 192
  · subst n192; exact cturned_192 w
  by_cases n112 : op = 112
  · subst n112; exact cturned_112 w
  by_cases n208 : op = 208
  · subst n208; exact cturned_208 w
  exact cturned_else op n16 n80 n64 n32 n160 n48 n176 n96 n192 n112 n208 w

end Hk

