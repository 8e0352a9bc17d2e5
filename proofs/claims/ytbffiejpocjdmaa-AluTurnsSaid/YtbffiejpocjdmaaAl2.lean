/- Package alu: simple, moved, divided, Sign; memory is as it was. No condition but those in each statement. -/
import Derived.Test.YtbffiejpocjdmaaProg
import Derived.Test.YtbffiejpocjdmaaWd
import Derived.Test.YtbffiejpocjdmaaAluDo
import Derived.Test.YtbffiejpocjdmaaWa
import Derived.Test.YtbffiejpocjdmaaAl1
namespace Hk
open Go Go.RowKit Go.Proofs
set_option linter.unusedSimpArgs false
set_option linter.unusedVariables false
set_option maxRecDepth 100000
theorem simple_add (a b : BitVec 64) (w : World) : Calls Try.prog 17 #[.int .u8 0, .int .u64 (N a), .int .u64 (N b)] w fun e w' => e = .returned (.tuple #[.int .u64 (N (a + b)), .bool true]) ∧ w = w' := by
  go_enter Try.func17, Try.ntmps17
  go_wp2
  go_ret2
  exact ⟨rfl, rfl⟩

theorem simple_sub (a b : BitVec 64) (w : World) : Calls Try.prog 17 #[.int .u8 16, .int .u64 (N a), .int .u64 (N b)] w fun e w' => e = .returned (.tuple #[.int .u64 (N (a - b)), .bool true]) ∧ w = w' := by
  go_enter Try.func17, Try.ntmps17
  go_wp2
  go_ret2
  exact ⟨rfl, rfl⟩

theorem simple_mul (a b : BitVec 64) (w : World) : Calls Try.prog 17 #[.int .u8 32, .int .u64 (N a), .int .u64 (N b)] w fun e w' => e = .returned (.tuple #[.int .u64 (N (a * b)), .bool true]) ∧ w = w' := by
  go_enter Try.func17, Try.ntmps17
  go_wp2
  go_ret2
  exact ⟨rfl, rfl⟩

theorem simple_or (a b : BitVec 64) (w : World) : Calls Try.prog 17 #[.int .u8 64, .int .u64 (N a), .int .u64 (N b)] w fun e w' => e = .returned (.tuple #[.int .u64 (N (a ||| b)), .bool true]) ∧ w = w' := by
  go_enter Try.func17, Try.ntmps17
  go_wp2
  go_ret2
  exact ⟨rfl, rfl⟩

theorem simple_and (a b : BitVec 64) (w : World) : Calls Try.prog 17 #[.int .u8 80, .int .u64 (N a), .int .u64 (N b)] w fun e w' => e = .returned (.tuple #[.int .u64 (N (a &&& b)), .bool true]) ∧ w = w' := by
  go_enter Try.func17, Try.ntmps17
  go_wp2
  go_ret2
  exact ⟨rfl, rfl⟩

theorem simple_xor (a b : BitVec 64) (w : World) : Calls Try.prog 17 #[.int .u8 160, .int .u64 (N a), .int .u64 (N b)] w fun e w' => e = .returned (.tuple #[.int .u64 (N (a ^^^ b)), .bool true]) ∧ w = w' := by
  go_enter Try.func17, Try.ntmps17
  go_wp2
  go_ret2
  exact ⟨rfl, rfl⟩

theorem simple_neg (a b : BitVec 64) (w : World) : Calls Try.prog 17 #[.int .u8 128, .int .u64 (N a), .int .u64 (N b)] w fun e w' => e = .returned (.tuple #[.int .u64 (N (-a)), .bool true]) ∧ w = w' := by
  go_enter Try.func17, Try.ntmps17
  go_wp2
  go_ret2
  exact ⟨rfl, rfl⟩

theorem simple_mov (a b : BitVec 64) (w : World) : Calls Try.prog 17 #[.int .u8 176, .int .u64 (N a), .int .u64 (N b)] w fun e w' => e = .returned (.tuple #[.int .u64 (N b), .bool true]) ∧ w = w' := by
  go_enter Try.func17, Try.ntmps17
  go_wp2
  go_ret2
  exact ⟨rfl, rfl⟩

theorem simple_else (op : Int) (s0 : ¬ op = 0) (s16 : ¬ op = 16) (s32 : ¬ op = 32) (s64 : ¬ op = 64) (s80 : ¬ op = 80) (s160 : ¬ op = 160) (s128 : ¬ op = 128) (s176 : ¬ op = 176) (a b : BitVec 64) (w : World) : Calls Try.prog 17 #[.int .u8 op, .int .u64 (N a), .int .u64 (N b)] w fun e w' => e = .returned (.tuple #[.int .u64 (N 0#64), .bool false]) ∧ w = w' := by
  go_enter Try.func17, Try.ntmps17
  go_wp2
  go_ret2
  exact ⟨rfl, rfl⟩

theorem moved_w_lsh (a b : BitVec 64) (w : World) : Calls Try.prog 18 #[.int .u8 96, .bool (true), .int .u64 (N a), .int .u64 (N b)] w fun e w' => e = .returned (.tuple #[.int .u64 (N (a <<< (b &&& 63#64).toNat)), .bool true]) ∧ w = w' := by
  go_enter Try.func18, Try.ntmps18
  go_wp2
  go_ret2
  exact ⟨rfl, rfl⟩

theorem moved_n_lsh (a b : BitVec 64) (w : World) : Calls Try.prog 18 #[.int .u8 96, .bool (false), .int .u64 (N a), .int .u64 (N b)] w fun e w' => e = .returned (.tuple #[.int .u64 (N (a <<< (b &&& 31#64).toNat)), .bool true]) ∧ w = w' := by
  go_enter Try.func18, Try.ntmps18
  go_wp2
  go_ret2
  exact ⟨rfl, rfl⟩

theorem moved_w_rsh (a b : BitVec 64) (w : World) : Calls Try.prog 18 #[.int .u8 112, .bool (true), .int .u64 (N a), .int .u64 (N b)] w fun e w' => e = .returned (.tuple #[.int .u64 (N (a >>> (b &&& 63#64).toNat)), .bool true]) ∧ w = w' := by
  go_enter Try.func18, Try.ntmps18
  go_wp2
  go_ret2
  exact ⟨rfl, rfl⟩

theorem moved_n_rsh (a b : BitVec 64) (w : World) : Calls Try.prog 18 #[.int .u8 112, .bool (false), .int .u64 (N a), .int .u64 (N b)] w fun e w' => e = .returned (.tuple #[.int .u64 (N ((a.setWidth 32 >>> (b &&& 31#64).toNat).setWidth 64)), .bool true]) ∧ w = w' := by
  go_enter Try.func18, Try.ntmps18
  go_wp2
  go_ret2
  exact ⟨rfl, rfl⟩

theorem moved_w_arsh (a b : BitVec 64) (w : World) : Calls Try.prog 18 #[.int .u8 192, .bool (true), .int .u64 (N a), .int .u64 (N b)] w fun e w' => e = .returned (.tuple #[.int .u64 (N (a.sshiftRight (b &&& 63#64).toNat)), .bool true]) ∧ w = w' := by
  go_enter Try.func18, Try.ntmps18
  go_wp2
  go_ret2
  exact ⟨rfl, rfl⟩

theorem moved_n_arsh (a b : BitVec 64) (w : World) : Calls Try.prog 18 #[.int .u8 192, .bool (false), .int .u64 (N a), .int .u64 (N b)] w fun e w' => e = .returned (.tuple #[.int .u64 (N (((a.setWidth 32).sshiftRight (b &&& 31#64).toNat).signExtend 64)), .bool true]) ∧ w = w' := by
  go_enter Try.func18, Try.ntmps18
  go_wp2
  go_ret2
  exact ⟨rfl, rfl⟩

theorem moved_else (op : Int) (m96 : ¬ op = 96) (m112 : ¬ op = 112) (m192 : ¬ op = 192) (wd : Bool) (a b : BitVec 64) (w : World) : Calls Try.prog 18 #[.int .u8 op, .bool (wd), .int .u64 (N a), .int .u64 (N b)] w fun e w' => e = .returned (.tuple #[.int .u64 (N 0#64), .bool false]) ∧ w = w' := by
  cases wd
  all_goals
    go_enter Try.func18, Try.ntmps18
    go_wp2
    go_ret2
    exact ⟨rfl, rfl⟩

theorem divided_ttt (a b : BitVec 64) (w : World) : Calls Try.prog 19 #[.bool (true), .bool (true), .bool (true), .int .u64 (N a), .int .u64 (N b)] w fun e w' => e = .returned (.int .u64 (N (a.srem b))) ∧ w = w' := by
  go_enter Try.func19, Try.ntmps19
  go_wp2_with (first | (go_at_call 24; (with_reducible refine (div_i64 _ _ _ _).mono ?_); rintro e w1 ⟨rfl, rfl⟩) | (go_at_call 25; (with_reducible refine (div_u64 _ _ _ _).mono ?_); rintro e w1 ⟨rfl, rfl⟩) | (go_at_call 26; (with_reducible refine (div_i32 _ _ _ _).mono ?_); rintro e w1 ⟨rfl, rfl⟩) | (go_at_call 27; (with_reducible refine (div_u32 _ _ _ _).mono ?_); rintro e w1 ⟨rfl, rfl⟩))
  go_ret
  exact ⟨rfl, rfl⟩

theorem divided_ttf (a b : BitVec 64) (w : World) : Calls Try.prog 19 #[.bool (true), .bool (true), .bool (false), .int .u64 (N a), .int .u64 (N b)] w fun e w' => e = .returned (.int .u64 (N (a.sdiv b))) ∧ w = w' := by
  go_enter Try.func19, Try.ntmps19
  go_wp2_with (first | (go_at_call 24; (with_reducible refine (div_i64 _ _ _ _).mono ?_); rintro e w1 ⟨rfl, rfl⟩) | (go_at_call 25; (with_reducible refine (div_u64 _ _ _ _).mono ?_); rintro e w1 ⟨rfl, rfl⟩) | (go_at_call 26; (with_reducible refine (div_i32 _ _ _ _).mono ?_); rintro e w1 ⟨rfl, rfl⟩) | (go_at_call 27; (with_reducible refine (div_u32 _ _ _ _).mono ?_); rintro e w1 ⟨rfl, rfl⟩))
  go_ret
  exact ⟨rfl, rfl⟩

theorem divided_tft (a b : BitVec 64) (w : World) : Calls Try.prog 19 #[.bool (true), .bool (false), .bool (true), .int .u64 (N a), .int .u64 (N b)] w fun e w' => e = .returned (.int .u64 (N (a % b))) ∧ w = w' := by
  go_enter Try.func19, Try.ntmps19
  go_wp2_with (first | (go_at_call 24; (with_reducible refine (div_i64 _ _ _ _).mono ?_); rintro e w1 ⟨rfl, rfl⟩) | (go_at_call 25; (with_reducible refine (div_u64 _ _ _ _).mono ?_); rintro e w1 ⟨rfl, rfl⟩) | (go_at_call 26; (with_reducible refine (div_i32 _ _ _ _).mono ?_); rintro e w1 ⟨rfl, rfl⟩) | (go_at_call 27; (with_reducible refine (div_u32 _ _ _ _).mono ?_); rintro e w1 ⟨rfl, rfl⟩))
  go_ret
  exact ⟨rfl, rfl⟩

theorem divided_tff (a b : BitVec 64) (w : World) : Calls Try.prog 19 #[.bool (true), .bool (false), .bool (false), .int .u64 (N a), .int .u64 (N b)] w fun e w' => e = .returned (.int .u64 (N (a / b))) ∧ w = w' := by
  go_enter Try.func19, Try.ntmps19
  go_wp2_with (first | (go_at_call 24; (with_reducible refine (div_i64 _ _ _ _).mono ?_); rintro e w1 ⟨rfl, rfl⟩) | (go_at_call 25; (with_reducible refine (div_u64 _ _ _ _).mono ?_); rintro e w1 ⟨rfl, rfl⟩) | (go_at_call 26; (with_reducible refine (div_i32 _ _ _ _).mono ?_); rintro e w1 ⟨rfl, rfl⟩) | (go_at_call 27; (with_reducible refine (div_u32 _ _ _ _).mono ?_); rintro e w1 ⟨rfl, rfl⟩))
  go_ret
  exact ⟨rfl, rfl⟩

theorem divided_ftt (a b : BitVec 64) (w : World) : Calls Try.prog 19 #[.bool (false), .bool (true), .bool (true), .int .u64 (N a), .int .u64 (N b)] w fun e w' => e = .returned (.int .u64 (N (((a.setWidth 32).srem (b.setWidth 32)).signExtend 64))) ∧ w = w' := by
  go_enter Try.func19, Try.ntmps19
  go_wp2_with (first | (go_at_call 24; (with_reducible refine (div_i64 _ _ _ _).mono ?_); rintro e w1 ⟨rfl, rfl⟩) | (go_at_call 25; (with_reducible refine (div_u64 _ _ _ _).mono ?_); rintro e w1 ⟨rfl, rfl⟩) | (go_at_call 26; (with_reducible refine (div_i32 _ _ _ _).mono ?_); rintro e w1 ⟨rfl, rfl⟩) | (go_at_call 27; (with_reducible refine (div_u32 _ _ _ _).mono ?_); rintro e w1 ⟨rfl, rfl⟩))
  go_ret
  exact ⟨rfl, rfl⟩

theorem divided_ftf (a b : BitVec 64) (w : World) : Calls Try.prog 19 #[.bool (false), .bool (true), .bool (false), .int .u64 (N a), .int .u64 (N b)] w fun e w' => e = .returned (.int .u64 (N (((a.setWidth 32).sdiv (b.setWidth 32)).signExtend 64))) ∧ w = w' := by
  go_enter Try.func19, Try.ntmps19
  go_wp2_with (first | (go_at_call 24; (with_reducible refine (div_i64 _ _ _ _).mono ?_); rintro e w1 ⟨rfl, rfl⟩) | (go_at_call 25; (with_reducible refine (div_u64 _ _ _ _).mono ?_); rintro e w1 ⟨rfl, rfl⟩) | (go_at_call 26; (with_reducible refine (div_i32 _ _ _ _).mono ?_); rintro e w1 ⟨rfl, rfl⟩) | (go_at_call 27; (with_reducible refine (div_u32 _ _ _ _).mono ?_); rintro e w1 ⟨rfl, rfl⟩))
  go_ret
  exact ⟨rfl, rfl⟩

theorem divided_fft (a b : BitVec 64) (w : World) : Calls Try.prog 19 #[.bool (false), .bool (false), .bool (true), .int .u64 (N a), .int .u64 (N b)] w fun e w' => e = .returned (.int .u64 (N (((a.setWidth 32) % (b.setWidth 32)).setWidth 64))) ∧ w = w' := by
  go_enter Try.func19, Try.ntmps19
  go_wp2_with (first | (go_at_call 24; (with_reducible refine (div_i64 _ _ _ _).mono ?_); rintro e w1 ⟨rfl, rfl⟩) | (go_at_call 25; (with_reducible refine (div_u64 _ _ _ _).mono ?_); rintro e w1 ⟨rfl, rfl⟩) | (go_at_call 26; (with_reducible refine (div_i32 _ _ _ _).mono ?_); rintro e w1 ⟨rfl, rfl⟩) | (go_at_call 27; (with_reducible refine (div_u32 _ _ _ _).mono ?_); rintro e w1 ⟨rfl, rfl⟩))
  go_ret
  exact ⟨rfl, rfl⟩

theorem divided_fff (a b : BitVec 64) (w : World) : Calls Try.prog 19 #[.bool (false), .bool (false), .bool (false), .int .u64 (N a), .int .u64 (N b)] w fun e w' => e = .returned (.int .u64 (N (((a.setWidth 32) / (b.setWidth 32)).setWidth 64))) ∧ w = w' := by
  go_enter Try.func19, Try.ntmps19
  go_wp2_with (first | (go_at_call 24; (with_reducible refine (div_i64 _ _ _ _).mono ?_); rintro e w1 ⟨rfl, rfl⟩) | (go_at_call 25; (with_reducible refine (div_u64 _ _ _ _).mono ?_); rintro e w1 ⟨rfl, rfl⟩) | (go_at_call 26; (with_reducible refine (div_i32 _ _ _ _).mono ?_); rintro e w1 ⟨rfl, rfl⟩) | (go_at_call 27; (with_reducible refine (div_u32 _ _ _ _).mono ?_); rintro e w1 ⟨rfl, rfl⟩))
  go_ret
  exact ⟨rfl, rfl⟩

end Hk
