/- Package fact: found; memory is as it was. No condition but those in each statement. -/
import Derived.Test.YtmhkngblpojeaaaProg
import Derived.Test.YtmhkngblpojeaaaGp
namespace Hk
open Go Go.RowKit Go.Proofs
set_option linter.unusedSimpArgs false
set_option linter.unusedVariables false
set_option maxRecDepth 100000
theorem found_off (op off : Int) (h : ¬ off = 0) (w : World) : Calls Try.prog 85 #[.int .u8 op, .int .i16 off] w fun e w' => e = .returned (.int .i64 0) ∧ w = w' := by
  have d : (off != 0) = true := by simpa using h
  go_enter Try.func85, Try.ntmps85
  go_wp2
  go_ret
  exact ⟨rfl, rfl⟩

theorem found_176  (w : World) : Calls Try.prog 85 #[.int .u8 176, .int .i16 0] w fun e w' => e = .returned (.int .i64 1) ∧ w = w' := by
  go_enter Try.func85, Try.ntmps85
  go_wp2
  go_ret
  exact ⟨rfl, rfl⟩

theorem found_0  (w : World) : Calls Try.prog 85 #[.int .u8 0, .int .i16 0] w fun e w' => e = .returned (.int .i64 2) ∧ w = w' := by
  go_enter Try.func85, Try.ntmps85
  go_wp2
  go_ret
  exact ⟨rfl, rfl⟩

theorem found_16  (w : World) : Calls Try.prog 85 #[.int .u8 16, .int .i16 0] w fun e w' => e = .returned (.int .i64 2) ∧ w = w' := by
  go_enter Try.func85, Try.ntmps85
  go_wp2
  go_ret
  exact ⟨rfl, rfl⟩

theorem found_32  (w : World) : Calls Try.prog 85 #[.int .u8 32, .int .i16 0] w fun e w' => e = .returned (.int .i64 2) ∧ w = w' := by
  go_enter Try.func85, Try.ntmps85
  go_wp2
  go_ret
  exact ⟨rfl, rfl⟩

theorem found_80  (w : World) : Calls Try.prog 85 #[.int .u8 80, .int .i16 0] w fun e w' => e = .returned (.int .i64 2) ∧ w = w' := by
  go_enter Try.func85, Try.ntmps85
  go_wp2
  go_ret
  exact ⟨rfl, rfl⟩

theorem found_64  (w : World) : Calls Try.prog 85 #[.int .u8 64, .int .i16 0] w fun e w' => e = .returned (.int .i64 2) ∧ w = w' := by
  go_enter Try.func85, Try.ntmps85
  go_wp2
  go_ret
  exact ⟨rfl, rfl⟩

theorem found_160  (w : World) : Calls Try.prog 85 #[.int .u8 160, .int .i16 0] w fun e w' => e = .returned (.int .i64 2) ∧ w = w' := by
  go_enter Try.func85, Try.ntmps85
  go_wp2
  go_ret
  exact ⟨rfl, rfl⟩

theorem found_96  (w : World) : Calls Try.prog 85 #[.int .u8 96, .int .i16 0] w fun e w' => e = .returned (.int .i64 3) ∧ w = w' := by
  go_enter Try.func85, Try.ntmps85
  go_wp2
  go_ret
  exact ⟨rfl, rfl⟩

theorem found_112  (w : World) : Calls Try.prog 85 #[.int .u8 112, .int .i16 0] w fun e w' => e = .returned (.int .i64 3) ∧ w = w' := by
  go_enter Try.func85, Try.ntmps85
  go_wp2
  go_ret
  exact ⟨rfl, rfl⟩

theorem found_48  (w : World) : Calls Try.prog 85 #[.int .u8 48, .int .i16 0] w fun e w' => e = .returned (.int .i64 4) ∧ w = w' := by
  go_enter Try.func85, Try.ntmps85
  go_wp2
  go_ret
  exact ⟨rfl, rfl⟩

theorem found_144  (w : World) : Calls Try.prog 85 #[.int .u8 144, .int .i16 0] w fun e w' => e = .returned (.int .i64 4) ∧ w = w' := by
  go_enter Try.func85, Try.ntmps85
  go_wp2
  go_ret
  exact ⟨rfl, rfl⟩

theorem found_else (op : Int) (n176 : ¬ op = 176) (n0 : ¬ op = 0) (n16 : ¬ op = 16) (n32 : ¬ op = 32) (n80 : ¬ op = 80) (n64 : ¬ op = 64) (n160 : ¬ op = 160) (n96 : ¬ op = 96) (n112 : ¬ op = 112) (n48 : ¬ op = 48) (n144 : ¬ op = 144) (w : World) : Calls Try.prog 85 #[.int .u8 op, .int .i16 0] w fun e w' => e = .returned (.int .i64 0) ∧ w = w' := by
  go_enter Try.func85, Try.ntmps85
  go_wp2
  go_ret
  exact ⟨rfl, rfl⟩

end Hk
