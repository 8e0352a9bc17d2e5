/- Package cond: Not returns what the conditions say; memory is as it was. No condition but those in each statement. -/
import Derived.Test.YtijlcdgjeonaeaaProg
import Derived.Test.YtijlcdgjeonaeaaWd
import Derived.Test.YtijlcdgjeonaeaaCondDo
namespace Hk
open Go Go.RowKit Go.Proofs
set_option linter.unusedSimpArgs false
set_option linter.unusedVariables false
set_option maxRecDepth 100000
theorem cnot_16  (w : World) : Calls Try.prog 12 #[.int .u8 16] w fun e w' => e = .returned (.tuple #[.int .u8 ((Cond.neg 16).getD 0), .bool (Cond.neg 16).isSome]) ∧ w = w' := by
  go_enter Try.func12, Try.ntmps12
  go_wp2
  go_ret2
  exact ⟨rfl, rfl⟩

theorem cnot_80  (w : World) : Calls Try.prog 12 #[.int .u8 80] w fun e w' => e = .returned (.tuple #[.int .u8 ((Cond.neg 80).getD 0), .bool (Cond.neg 80).isSome]) ∧ w = w' := by
  go_enter Try.func12, Try.ntmps12
  go_wp2
  go_ret2
  exact ⟨rfl, rfl⟩

theorem cnot_32  (w : World) : Calls Try.prog 12 #[.int .u8 32] w fun e w' => e = .returned (.tuple #[.int .u8 ((Cond.neg 32).getD 0), .bool (Cond.neg 32).isSome]) ∧ w = w' := by
  go_enter Try.func12, Try.ntmps12
  go_wp2
  go_ret2
  exact ⟨rfl, rfl⟩

theorem cnot_176  (w : World) : Calls Try.prog 12 #[.int .u8 176] w fun e w' => e = .returned (.tuple #[.int .u8 ((Cond.neg 176).getD 0), .bool (Cond.neg 176).isSome]) ∧ w = w' := by
  go_enter Try.func12, Try.ntmps12
  go_wp2
  go_ret2
  exact ⟨rfl, rfl⟩

theorem cnot_48  (w : World) : Calls Try.prog 12 #[.int .u8 48] w fun e w' => e = .returned (.tuple #[.int .u8 ((Cond.neg 48).getD 0), .bool (Cond.neg 48).isSome]) ∧ w = w' := by
  go_enter Try.func12, Try.ntmps12
  go_wp2
  go_ret2
  exact ⟨rfl, rfl⟩

theorem cnot_160  (w : World) : Calls Try.prog 12 #[.int .u8 160] w fun e w' => e = .returned (.tuple #[.int .u8 ((Cond.neg 160).getD 0), .bool (Cond.neg 160).isSome]) ∧ w = w' := by
  go_enter Try.func12, Try.ntmps12
  go_wp2
  go_ret2
  exact ⟨rfl, rfl⟩

theorem cnot_96  (w : World) : Calls Try.prog 12 #[.int .u8 96] w fun e w' => e = .returned (.tuple #[.int .u8 ((Cond.neg 96).getD 0), .bool (Cond.neg 96).isSome]) ∧ w = w' := by
  go_enter Try.func12, Try.ntmps12
  go_wp2
  go_ret2
  exact ⟨rfl, rfl⟩

theorem cnot_208  (w : World) : Calls Try.prog 12 #[.int .u8 208] w fun e w' => e = .returned (.tuple #[.int .u8 ((Cond.neg 208).getD 0), .bool (Cond.neg 208).isSome]) ∧ w = w' := by
  go_enter Try.func12, Try.ntmps12
  go_wp2
  go_ret2
  exact ⟨rfl, rfl⟩

theorem cnot_112  (w : World) : Calls Try.prog 12 #[.int .u8 112] w fun e w' => e = .returned (.tuple #[.int .u8 ((Cond.neg 112).getD 0), .bool (Cond.neg 112).isSome]) ∧ w = w' := by
  go_enter Try.func12, Try.ntmps12
  go_wp2
  go_ret2
  exact ⟨rfl, rfl⟩

theorem cnot_192  (w : World) : Calls Try.prog 12 #[.int .u8 192] w fun e w' => e = .returned (.tuple #[.int .u8 ((Cond.neg 192).getD 0), .bool (Cond.neg 192).isSome]) ∧ w = w' := by
  go_enter Try.func12, Try.ntmps12
  go_wp2
  go_ret2
  exact ⟨rfl, rfl⟩

theorem cnot_else (op : Int) (n16 : ¬ op = 16) (n80 : ¬ op = 80) (n32 : ¬ op = 32) (n176 : ¬ op = 176) (n48 : ¬ op = 48) (n160 : ¬ op = 160) (n96 : ¬ op = 96) (n208 : ¬ op = 208) (n112 : ¬ op = 112) (n192 : ¬ op = 192) (w : World) : Calls Try.prog 12 #[.int .u8 op] w fun e w' => e = .returned (.tuple #[.int .u8 ((Cond.neg op).getD 0), .bool (Cond.neg op).isSome]) ∧ w = w' := by
  have e : Cond.neg op = none := by unfold Cond.neg; simp [n16, n80, n32, n176, n48, n160, n96, n208, n112, n192]
  rw [e]; clear e
  go_enter Try.func12, Try.ntmps12
  go_wp2
  go_ret2
  exact ⟨rfl, rfl⟩

theorem cnot_c (op : Int) (w : World) : Calls Try.prog 12 #[.int .u8 op] w fun e w' => e = .returned (.tuple #[.int .u8 ((Cond.neg op).getD 0), .bool (Cond.neg op).isSome]) ∧ w = w' := by
  by_cases n16 : op = 16
  · subst n16; exact cnot_16 w
  by_cases n80 : op = 80
  · subst n80; exact cnot_80 w
  by_cases n32 : op = 32
  · subst n32; exact cnot_32 w
  by_cases n176 : op = 176
  · subst n176; exact cnot_176 w
  by_cases n48 : op = 48
  · subst n48; exact cnot_48 w
  by_cases n160 : op = 160
  · subst n160; exact cnot_160 w
  by_cases n96 : op = 96
  · subst n96; exact cnot_96 w
  by_cases n208 : op = 208
  · subst n208; exact cnot_208 w
  by_cases n112 : op = 112
  · subst n112; exact cnot_112 w
  by_cases n192 : op = 192
  · subst n192; exact cnot_192 w
  exact cnot_else op n16 n80 n32 n176 n48 n160 n96 n208 n112 n192 w

end Hk
