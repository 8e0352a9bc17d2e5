/- The statement CondOne of the Go text: it returns true, and old memory is as it was. No condition. -/
import Derived.Test.YtijlcdgjeonaeaaProg
import Derived.Test.YtijlcdgjeonaeaaWd
import Derived.Test.YtijlcdgjeonaeaaCondLaw
import Derived.Test.YtijlcdgjeonaeaaCd3
import Derived.LoopN
namespace Hk
open Go Go.RowKit Go.Proofs
set_option linter.unusedSimpArgs false
set_option linter.unusedVariables false
set_option maxRecDepth 100000
attribute [go_sem] Cond.val_some Cond.err_some Cond.val_none Cond.err_none
theorem condOne_e (wd : Bool) (a b : BitVec 64) (e1 : Cond.is 160 wd a b = some false) (e2 : Cond.is 32 wd a b = some false) (e3 : Cond.is 16 wd a b = some true) (e4 : Cond.is 192 wd a b = some false) (e5 : Cond.is 96 wd a b = some false) (w : World) : Calls Try.prog 4 #[.bool (wd), .int .u64 (N a), .int .u64 (N b)] w fun e w' => e = .returned (.bool true) ∧ Below w.heap.size w w' := by
  have i00 : ∀ w, (Instr.index 28 (.agg #[.int .u8 160, .int .u8 32, .int .u8 16]) (.int .i64 0)).run Try.prog w = .ok (.int .u8 160) w := fun _ => by kernel_rfl
  have i01 : ∀ w, (Instr.index 28 (.agg #[.int .u8 160, .int .u8 32, .int .u8 16]) (.int .i64 1)).run Try.prog w = .ok (.int .u8 32) w := fun _ => by kernel_rfl
  have i02 : ∀ w, (Instr.index 28 (.agg #[.int .u8 160, .int .u8 32, .int .u8 16]) (.int .i64 2)).run Try.prog w = .ok (.int .u8 16) w := fun _ => by kernel_rfl
  have i10 : ∀ w, (Instr.index 28 (.agg #[.int .u8 192, .int .u8 96, .int .u8 16]) (.int .i64 0)).run Try.prog w = .ok (.int .u8 192) w := fun _ => by kernel_rfl
  have i11 : ∀ w, (Instr.index 28 (.agg #[.int .u8 192, .int .u8 96, .int .u8 16]) (.int .i64 1)).run Try.prog w = .ok (.int .u8 96) w := fun _ => by kernel_rfl
  have i12 : ∀ w, (Instr.index 28 (.agg #[.int .u8 192, .int .u8 96, .int .u8 16]) (.int .i64 2)).run Try.prog w = .ok (.int .u8 16) w := fun _ => by kernel_rfl
  go_enter Try.func4, Try.ntmps4
  go_wp2_with (first | (go_at_call 11; (with_reducible refine (cshown_c _).mono ?_); rintro e w1 ⟨rfl, rfl⟩) | (go_at_call 9; (with_reducible refine (cis_c _ _ _ _ _).mono ?_); rintro e w1 ⟨rfl, rfl⟩))
  refine wp_loop_rounds 3 ?_
  rw [rounds_succ]
  go_wp2_with (first | (go_at_call 11; (with_reducible refine (cshown_c _).mono ?_); rintro e w1 ⟨rfl, rfl⟩) | (go_at_call 9; (with_reducible refine (cis_c _ _ _ _ _).mono ?_); rintro e w1 ⟨rfl, rfl⟩))
  refine wp_loop_rounds 4 ?_
  rw [rounds_succ]
  go_wp2_with (first | (go_at_call 11; (with_reducible refine (cshown_c _).mono ?_); rintro e w1 ⟨rfl, rfl⟩) | (go_at_call 9; (with_reducible refine (cis_c _ _ _ _ _).mono ?_); rintro e w1 ⟨rfl, rfl⟩))
  rw [rounds_succ]
  go_wp2_with (first | (go_at_call 11; (with_reducible refine (cshown_c _).mono ?_); rintro e w1 ⟨rfl, rfl⟩) | (go_at_call 9; (with_reducible refine (cis_c _ _ _ _ _).mono ?_); rintro e w1 ⟨rfl, rfl⟩))
  rw [rounds_succ]
  go_wp2_with (first | (go_at_call 11; (with_reducible refine (cshown_c _).mono ?_); rintro e w1 ⟨rfl, rfl⟩) | (go_at_call 9; (with_reducible refine (cis_c _ _ _ _ _).mono ?_); rintro e w1 ⟨rfl, rfl⟩))
  rw [rounds_succ]
  go_wp2_with (first | (go_at_call 11; (with_reducible refine (cshown_c _).mono ?_); rintro e w1 ⟨rfl, rfl⟩) | (go_at_call 9; (with_reducible refine (cis_c _ _ _ _ _).mono ?_); rintro e w1 ⟨rfl, rfl⟩))
  rw [rounds_succ]
  go_wp2_with (first | (go_at_call 11; (with_reducible refine (cshown_c _).mono ?_); rintro e w1 ⟨rfl, rfl⟩) | (go_at_call 9; (with_reducible refine (cis_c _ _ _ _ _).mono ?_); rintro e w1 ⟨rfl, rfl⟩))
  refine wp_loop_rounds 4 ?_
  rw [rounds_succ]
  go_wp2_with (first | (go_at_call 11; (with_reducible refine (cshown_c _).mono ?_); rintro e w1 ⟨rfl, rfl⟩) | (go_at_call 9; (with_reducible refine (cis_c _ _ _ _ _).mono ?_); rintro e w1 ⟨rfl, rfl⟩))
  rw [rounds_succ]
  go_wp2_with (first | (go_at_call 11; (with_reducible refine (cshown_c _).mono ?_); rintro e w1 ⟨rfl, rfl⟩) | (go_at_call 9; (with_reducible refine (cis_c _ _ _ _ _).mono ?_); rintro e w1 ⟨rfl, rfl⟩))
  rw [rounds_succ]
  go_wp2_with (first | (go_at_call 11; (with_reducible refine (cshown_c _).mono ?_); rintro e w1 ⟨rfl, rfl⟩) | (go_at_call 9; (with_reducible refine (cis_c _ _ _ _ _).mono ?_); rintro e w1 ⟨rfl, rfl⟩))
  rw [rounds_succ]
  go_wp2_with (first | (go_at_call 11; (with_reducible refine (cshown_c _).mono ?_); rintro e w1 ⟨rfl, rfl⟩) | (go_at_call 9; (with_reducible refine (cis_c _ _ _ _ _).mono ?_); rintro e w1 ⟨rfl, rfl⟩))
  rw [rounds_succ]
  go_wp2_with (first | (go_at_call 11; (with_reducible refine (cshown_c _).mono ?_); rintro e w1 ⟨rfl, rfl⟩) | (go_at_call 9; (with_reducible refine (cis_c _ _ _ _ _).mono ?_); rintro e w1 ⟨rfl, rfl⟩))
  go_ret
  exact ⟨rfl, (by repeat' (first | (with_reducible exact Below.refl _ _) | (with_reducible assumption) | (with_reducible refine Below.alloc ?_ ?_ _) | (with_reducible refine Below.setCell ?_ ?_ _) | (with_reducible refine Below.drew ?_) | (with_reducible refine below_dn ?_ _) | (with_reducible refine Below.trans ?_ (Below.mono (by assumption) ?_)) | go_size))⟩

theorem condOne_00 (wd : Bool) (a b : BitVec 64) (e1 : Cond.is 160 wd a b = some false) (e2 : Cond.is 32 wd a b = some true) (e3 : Cond.is 16 wd a b = some false) (e4 : Cond.is 192 wd a b = some false) (e5 : Cond.is 96 wd a b = some true) (w : World) : Calls Try.prog 4 #[.bool (wd), .int .u64 (N a), .int .u64 (N b)] w fun e w' => e = .returned (.bool true) ∧ Below w.heap.size w w' := by
  have i00 : ∀ w, (Instr.index 28 (.agg #[.int .u8 160, .int .u8 32, .int .u8 16]) (.int .i64 0)).run Try.prog w = .ok (.int .u8 160) w := fun _ => by kernel_rfl
  have i01 : ∀ w, (Instr.index 28 (.agg #[.int .u8 160, .int .u8 32, .int .u8 16]) (.int .i64 1)).run Try.prog w = .ok (.int .u8 32) w := fun _ => by kernel_rfl
  have i02 : ∀ w, (Instr.index 28 (.agg #[.int .u8 160, .int .u8 32, .int .u8 16]) (.int .i64 2)).run Try.prog w = .ok (.int .u8 16) w := fun _ => by kernel_rfl
  have i10 : ∀ w, (Instr.index 28 (.agg #[.int .u8 192, .int .u8 96, .int .u8 16]) (.int .i64 0)).run Try.prog w = .ok (.int .u8 192) w := fun _ => by kernel_rfl
  have i11 : ∀ w, (Instr.index 28 (.agg #[.int .u8 192, .int .u8 96, .int .u8 16]) (.int .i64 1)).run Try.prog w = .ok (.int .u8 96) w := fun _ => by kernel_rfl
  have i12 : ∀ w, (Instr.index 28 (.agg #[.int .u8 192, .int .u8 96, .int .u8 16]) (.int .i64 2)).run Try.prog w = .ok (.int .u8 16) w := fun _ => by kernel_rfl
  go_enter Try.func4, Try.ntmps4
  go_wp2_with (first | (go_at_call 11; (with_reducible refine (cshown_c _).mono ?_); rintro e w1 ⟨rfl, rfl⟩) | (go_at_call 9; (with_reducible refine (cis_c _ _ _ _ _).mono ?_); rintro e w1 ⟨rfl, rfl⟩))
  refine wp_loop_rounds 3 ?_
  rw [rounds_succ]
  go_wp2_with (first | (go_at_call 11; (with_reducible refine (cshown_c _).mono ?_); rintro e w1 ⟨rfl, rfl⟩) | (go_at_call 9; (with_reducible refine (cis_c _ _ _ _ _).mono ?_); rintro e w1 ⟨rfl, rfl⟩))
  refine wp_loop_rounds 4 ?_
  rw [rounds_succ]
  go_wp2_with (first | (go_at_call 11; (with_reducible refine (cshown_c _).mono ?_); rintro e w1 ⟨rfl, rfl⟩) | (go_at_call 9; (with_reducible refine (cis_c _ _ _ _ _).mono ?_); rintro e w1 ⟨rfl, rfl⟩))
  rw [rounds_succ]
  go_wp2_with (first | (go_at_call 11; (with_reducible refine (cshown_c _).mono ?_); rintro e w1 ⟨rfl, rfl⟩) | (go_at_call 9; (with_reducible refine (cis_c _ _ _ _ _).mono ?_); rintro e w1 ⟨rfl, rfl⟩))
  rw [rounds_succ]
  go_wp2_with (first | (go_at_call 11; (with_reducible refine (cshown_c _).mono ?_); rintro e w1 ⟨rfl, rfl⟩) | (go_at_call 9; (with_reducible refine (cis_c _ _ _ _ _).mono ?_); rintro e w1 ⟨rfl, rfl⟩))
  rw [rounds_succ]
  go_wp2_with (first | (go_at_call 11; (with_reducible refine (cshown_c _).mono ?_); rintro e w1 ⟨rfl, rfl⟩) | (go_at_call 9; (with_reducible refine (cis_c _ _ _ _ _).mono ?_); rintro e w1 ⟨rfl, rfl⟩))
  rw [rounds_succ]
  go_wp2_with (first | (go_at_call 11; (with_reducible refine (cshown_c _).mono ?_); rintro e w1 ⟨rfl, rfl⟩) | (go_at_call 9; (with_reducible refine (cis_c _ _ _ _ _).mono ?_); rintro e w1 ⟨rfl, rfl⟩))
  refine wp_loop_rounds 4 ?_
  rw [rounds_succ]
  go_wp2_with (first | (go_at_call 11; (with_reducible refine (cshown_c _).mono ?_); rintro e w1 ⟨rfl, rfl⟩) | (go_at_call 9; (with_reducible refine (cis_c _ _ _ _ _).mono ?_); rintro e w1 ⟨rfl, rfl⟩))
  rw [rounds_succ]
  go_wp2_with (first | (go_at_call 11; (with_reducible refine (cshown_c _).mono ?_); rintro e w1 ⟨rfl, rfl⟩) | (go_at_call 9; (with_reducible refine (cis_c _ _ _ _ _).mono ?_); rintro e w1 ⟨rfl, rfl⟩))
  rw [rounds_succ]
  go_wp2_with (first | (go_at_call 11; (with_reducible refine (cshown_c _).mono ?_); rintro e w1 ⟨rfl, rfl⟩) | (go_at_call 9; (with_reducible refine (cis_c _ _ _ _ _).mono ?_); rintro e w1 ⟨rfl, rfl⟩))
  rw [rounds_succ]
  go_wp2_with (first | (go_at_call 11; (with_reducible refine (cshown_c _).mono ?_); rintro e w1 ⟨rfl, rfl⟩) | (go_at_call 9; (with_reducible refine (cis_c _ _ _ _ _).mono ?_); rintro e w1 ⟨rfl, rfl⟩))
  rw [rounds_succ]
  go_wp2_with (first | (go_at_call 11; (with_reducible refine (cshown_c _).mono ?_); rintro e w1 ⟨rfl, rfl⟩) | (go_at_call 9; (with_reducible refine (cis_c _ _ _ _ _).mono ?_); rintro e w1 ⟨rfl, rfl⟩))
  go_ret
  exact ⟨rfl, (by repeat' (first | (with_reducible exact Below.refl _ _) | (with_reducible assumption) | (with_reducible refine Below.alloc ?_ ?_ _) | (with_reducible refine Below.setCell ?_ ?_ _) | (with_reducible refine Below.drew ?_) | (with_reducible refine below_dn ?_ _) | (with_reducible refine Below.trans ?_ (Below.mono (by assumption) ?_)) | go_size))⟩

theorem condOne_01 (wd : Bool) (a b : BitVec 64) (e1 : Cond.is 160 wd a b = some false) (e2 : Cond.is 32 wd a b = some true) (e3 : Cond.is 16 wd a b = some false) (e4 : Cond.is 192 wd a b = some true) (e5 : Cond.is 96 wd a b = some false) (w : World) : Calls Try.prog 4 #[.bool (wd), .int .u64 (N a), .int .u64 (N b)] w fun e w' => e = .returned (.bool true) ∧ Below w.heap.size w w' := by
  have i00 : ∀ w, (Instr.index 28 (.agg #[.int .u8 160, .int .u8 32, .int .u8 16]) (.int .i64 0)).run Try.prog w = .ok (.int .u8 160) w := fun _ => by kernel_rfl
  have i01 : ∀ w, (Instr.index 28 (.agg #[.int .u8 160, .int .u8 32, .int .u8 16]) (.int .i64 1)).run Try.prog w = .ok (.int .u8 32) w := fun _ => by kernel_rfl
  have i02 : ∀ w, (Instr.index 28 (.agg #[.int .u8 160, .int .u8 32, .int .u8 16]) (.int .i64 2)).run Try.prog w = .ok (.int .u8 16) w := fun _ => by kernel_rfl
  have i10 : ∀ w, (Instr.index 28 (.agg #[.int .u8 192, .int .u8 96, .int .u8 16]) (.int .i64 0)).run Try.prog w = .ok (.int .u8 192) w := fun _ => by kernel_rfl
  have i11 : ∀ w, (Instr.index 28 (.agg #[.int .u8 192, .int .u8 96, .int .u8 16]) (.int .i64 1)).run Try.prog w = .ok (.int .u8 96) w := fun _ => by kernel_rfl
  have i12 : ∀ w, (Instr.index 28 (.agg #[.int .u8 192, .int .u8 96, .int .u8 16]) (.int .i64 2)).run Try.prog w = .ok (.int .u8 16) w := fun _ => by kernel_rfl
  go_enter Try.func4, Try.ntmps4
  go_wp2_with (first | (go_at_call 11; (with_reducible refine (cshown_c _).mono ?_); rintro e w1 ⟨rfl, rfl⟩) | (go_at_call 9; (with_reducible refine (cis_c _ _ _ _ _).mono ?_); rintro e w1 ⟨rfl, rfl⟩))
  refine wp_loop_rounds 3 ?_
  rw [rounds_succ]
  go_wp2_with (first | (go_at_call 11; (with_reducible refine (cshown_c _).mono ?_); rintro e w1 ⟨rfl, rfl⟩) | (go_at_call 9; (with_reducible refine (cis_c _ _ _ _ _).mono ?_); rintro e w1 ⟨rfl, rfl⟩))
  refine wp_loop_rounds 4 ?_
  rw [rounds_succ]
  go_wp2_with (first | (go_at_call 11; (with_reducible refine (cshown_c _).mono ?_); rintro e w1 ⟨rfl, rfl⟩) | (go_at_call 9; (with_reducible refine (cis_c _ _ _ _ _).mono ?_); rintro e w1 ⟨rfl, rfl⟩))
  rw [rounds_succ]
  go_wp2_with (first | (go_at_call 11; (with_reducible refine (cshown_c _).mono ?_); rintro e w1 ⟨rfl, rfl⟩) | (go_at_call 9; (with_reducible refine (cis_c _ _ _ _ _).mono ?_); rintro e w1 ⟨rfl, rfl⟩))
  rw [rounds_succ]
  go_wp2_with (first | (go_at_call 11; (with_reducible refine (cshown_c _).mono ?_); rintro e w1 ⟨rfl, rfl⟩) | (go_at_call 9; (with_reducible refine (cis_c _ _ _ _ _).mono ?_); rintro e w1 ⟨rfl, rfl⟩))
  rw [rounds_succ]
  go_wp2_with (first | (go_at_call 11; (with_reducible refine (cshown_c _).mono ?_); rintro e w1 ⟨rfl, rfl⟩) | (go_at_call 9; (with_reducible refine (cis_c _ _ _ _ _).mono ?_); rintro e w1 ⟨rfl, rfl⟩))
  rw [rounds_succ]
  go_wp2_with (first | (go_at_call 11; (with_reducible refine (cshown_c _).mono ?_); rintro e w1 ⟨rfl, rfl⟩) | (go_at_call 9; (with_reducible refine (cis_c _ _ _ _ _).mono ?_); rintro e w1 ⟨rfl, rfl⟩))
  refine wp_loop_rounds 4 ?_
  rw [rounds_succ]
  go_wp2_with (first | (go_at_call 11; (with_reducible refine (cshown_c _).mono ?_); rintro e w1 ⟨rfl, rfl⟩) | (go_at_call 9; (with_reducible refine (cis_c _ _ _ _ _).mono ?_); rintro e w1 ⟨rfl, rfl⟩))
  rw [rounds_succ]
  go_wp2_with (first | (go_at_call 11; (with_reducible refine (cshown_c _).mono ?_); rintro e w1 ⟨rfl, rfl⟩) | (go_at_call 9; (with_reducible refine (cis_c _ _ _ _ _).mono ?_); rintro e w1 ⟨rfl, rfl⟩))
  rw [rounds_succ]
  go_wp2_with (first | (go_at_call 11; (with_reducible refine (cshown_c _).mono ?_); rintro e w1 ⟨rfl, rfl⟩) | (go_at_call 9; (with_reducible refine (cis_c _ _ _ _ _).mono ?_); rintro e w1 ⟨rfl, rfl⟩))
  rw [rounds_succ]
  go_wp2_with (first | (go_at_call 11; (with_reducible refine (cshown_c _).mono ?_); rintro e w1 ⟨rfl, rfl⟩) | (go_at_call 9; (with_reducible refine (cis_c _ _ _ _ _).mono ?_); rintro e w1 ⟨rfl, rfl⟩))
  rw [rounds_succ]
  go_wp2_with (first | (go_at_call 11; (with_reducible refine (cshown_c _).mono ?_); rintro e w1 ⟨rfl, rfl⟩) | (go_at_call 9; (with_reducible refine (cis_c _ _ _ _ _).mono ?_); rintro e w1 ⟨rfl, rfl⟩))
  go_ret
  exact ⟨rfl, (by repeat' (first | (with_reducible exact Below.refl _ _) | (with_reducible assumption) | (with_reducible refine Below.alloc ?_ ?_ _) | (with_reducible refine Below.setCell ?_ ?_ _) | (with_reducible refine Below.drew ?_) | (with_reducible refine below_dn ?_ _) | (with_reducible refine Below.trans ?_ (Below.mono (by assumption) ?_)) | go_size))⟩

theorem condOne_10 (wd : Bool) (a b : BitVec 64) (e1 : Cond.is 160 wd a b = some true) (e2 : Cond.is 32 wd a b = some false) (e3 : Cond.is 16 wd a b = some false) (e4 : Cond.is 192 wd a b = some false) (e5 : Cond.is 96 wd a b = some true) (w : World) : Calls Try.prog 4 #[.bool (wd), .int .u64 (N a), .int .u64 (N b)] w fun e w' => e = .returned (.bool true) ∧ Below w.heap.size w w' := by
  have i00 : ∀ w, (Instr.index 28 (.agg #[.int .u8 160, .int .u8 32, .int .u8 16]) (.int .i64 0)).run Try.prog w = .ok (.int .u8 160) w := fun _ => by kernel_rfl
  have i01 : ∀ w, (Instr.index 28 (.agg #[.int .u8 160, .int .u8 32, .int .u8 16]) (.int .i64 1)).run Try.prog w = .ok (.int .u8 32) w := fun _ => by kernel_rfl
  have i02 : ∀ w, (Instr.index 28 (.agg #[.int .u8 160, .int .u8 32, .int .u8 16]) (.int .i64 2)).run Try.prog w = .ok (.int .u8 16) w := fun _ => by kernel_rfl
  have i10 : ∀ w, (Instr.index 28 (.agg #[.int .u8 192, .int .u8 96, .int .u8 16]) (.int .i64 0)).run Try.prog w = .ok (.int .u8 192) w := fun _ => by kernel_rfl
  have i11 : ∀ w, (Instr.index 28 (.agg #[.int .u8 192, .int .u8 96, .int .u8 16]) (.int .i64 1)).run Try.prog w = .ok (.int .u8 96) w := fun _ => by kernel_rfl
  have i12 : ∀ w, (Instr.index 28 (.agg #[.int .u8 192, .int .u8 96, .int .u8 16]) (.int .i64 2)).run Try.prog w = .ok (.int .u8 16) w := fun _ => by kernel_rfl
  go_enter Try.func4, Try.ntmps4
  go_wp2_with (first | (go_at_call 11; (with_reducible refine (cshown_c _).mono ?_); rintro e w1 ⟨rfl, rfl⟩) | (go_at_call 9; (with_reducible refine (cis_c _ _ _ _ _).mono ?_); rintro e w1 ⟨rfl, rfl⟩))
  refine wp_loop_rounds 3 ?_
  rw [rounds_succ]
  go_wp2_with (first | (go_at_call 11; (with_reducible refine (cshown_c _).mono ?_); rintro e w1 ⟨rfl, rfl⟩) | (go_at_call 9; (with_reducible refine (cis_c _ _ _ _ _).mono ?_); rintro e w1 ⟨rfl, rfl⟩))
  refine wp_loop_rounds 4 ?_
  rw [rounds_succ]
  go_wp2_with (first | (go_at_call 11; (with_reducible refine (cshown_c _).mono ?_); rintro e w1 ⟨rfl, rfl⟩) | (go_at_call 9; (with_reducible refine (cis_c _ _ _ _ _).mono ?_); rintro e w1 ⟨rfl, rfl⟩))
  rw [rounds_succ]
  go_wp2_with (first | (go_at_call 11; (with_reducible refine (cshown_c _).mono ?_); rintro e w1 ⟨rfl, rfl⟩) | (go_at_call 9; (with_reducible refine (cis_c _ _ _ _ _).mono ?_); rintro e w1 ⟨rfl, rfl⟩))
  rw [rounds_succ]
  go_wp2_with (first | (go_at_call 11; (with_reducible refine (cshown_c _).mono ?_); rintro e w1 ⟨rfl, rfl⟩) | (go_at_call 9; (with_reducible refine (cis_c _ _ _ _ _).mono ?_); rintro e w1 ⟨rfl, rfl⟩))
  rw [rounds_succ]
  go_wp2_with (first | (go_at_call 11; (with_reducible refine (cshown_c _).mono ?_); rintro e w1 ⟨rfl, rfl⟩) | (go_at_call 9; (with_reducible refine (cis_c _ _ _ _ _).mono ?_); rintro e w1 ⟨rfl, rfl⟩))
  rw [rounds_succ]
  go_wp2_with (first | (go_at_call 11; (with_reducible refine (cshown_c _).mono ?_); rintro e w1 ⟨rfl, rfl⟩) | (go_at_call 9; (with_reducible refine (cis_c _ _ _ _ _).mono ?_); rintro e w1 ⟨rfl, rfl⟩))
  refine wp_loop_rounds 4 ?_
  rw [rounds_succ]
  go_wp2_with (first | (go_at_call 11; (with_reducible refine (cshown_c _).mono ?_); rintro e w1 ⟨rfl, rfl⟩) | (go_at_call 9; (with_reducible refine (cis_c _ _ _ _ _).mono ?_); rintro e w1 ⟨rfl, rfl⟩))
  rw [rounds_succ]
  go_wp2_with (first | (go_at_call 11; (with_reducible refine (cshown_c _).mono ?_); rintro e w1 ⟨rfl, rfl⟩) | (go_at_call 9; (with_reducible refine (cis_c _ _ _ _ _).mono ?_); rintro e w1 ⟨rfl, rfl⟩))
  rw [rounds_succ]
  go_wp2_with (first | (go_at_call 11; (with_reducible refine (cshown_c _).mono ?_); rintro e w1 ⟨rfl, rfl⟩) | (go_at_call 9; (with_reducible refine (cis_c _ _ _ _ _).mono ?_); rintro e w1 ⟨rfl, rfl⟩))
  rw [rounds_succ]
  go_wp2_with (first | (go_at_call 11; (with_reducible refine (cshown_c _).mono ?_); rintro e w1 ⟨rfl, rfl⟩) | (go_at_call 9; (with_reducible refine (cis_c _ _ _ _ _).mono ?_); rintro e w1 ⟨rfl, rfl⟩))
  rw [rounds_succ]
  go_wp2_with (first | (go_at_call 11; (with_reducible refine (cshown_c _).mono ?_); rintro e w1 ⟨rfl, rfl⟩) | (go_at_call 9; (with_reducible refine (cis_c _ _ _ _ _).mono ?_); rintro e w1 ⟨rfl, rfl⟩))
  go_ret
  exact ⟨rfl, (by repeat' (first | (with_reducible exact Below.refl _ _) | (with_reducible assumption) | (with_reducible refine Below.alloc ?_ ?_ _) | (with_reducible refine Below.setCell ?_ ?_ _) | (with_reducible refine Below.drew ?_) | (with_reducible refine below_dn ?_ _) | (with_reducible refine Below.trans ?_ (Below.mono (by assumption) ?_)) | go_size))⟩

theorem condOne_11 (wd : Bool) (a b : BitVec 64) (e1 : Cond.is 160 wd a b = some true) (e2 : Cond.is 32 wd a b = some false) (e3 : Cond.is 16 wd a b = some false) (e4 : Cond.is 192 wd a b = some true) (e5 : Cond.is 96 wd a b = some false) (w : World) : Calls Try.prog 4 #[.bool (wd), .int .u64 (N a), .int .u64 (N b)] w fun e w' => e = .returned (.bool true) ∧ Below w.heap.size w w' := by
  have i00 : ∀ w, (Instr.index 28 (.agg #[.int .u8 160, .int .u8 32, .int .u8 16]) (.int .i64 0)).run Try.prog w = .ok (.int .u8 160) w := fun _ => by kernel_rfl
  have i01 : ∀ w, (Instr.index 28 (.agg #[.int .u8 160, .int .u8 32, .int .u8 16]) (.int .i64 1)).run Try.prog w = .ok (.int .u8 32) w := fun _ => by kernel_rfl
  have i02 : ∀ w, (Instr.index 28 (.agg #[.int .u8 160, .int .u8 32, .int .u8 16]) (.int .i64 2)).run Try.prog w = .ok (.int .u8 16) w := fun _ => by kernel_rfl
  have i10 : ∀ w, (Instr.index 28 (.agg #[.int .u8 192, .int .u8 96, .int .u8 16]) (.int .i64 0)).run Try.prog w = .ok (.int .u8 192) w := fun _ => by kernel_rfl
  have i11 : ∀ w, (Instr.index 28 (.agg #[.int .u8 192, .int .u8 96, .int .u8 16]) (.int .i64 1)).run Try.prog w = .ok (.int .u8 96) w := fun _ => by kernel_rfl
  have i12 : ∀ w, (Instr.index 28 (.agg #[.int .u8 192, .int .u8 96, .int .u8 16]) (.int .i64 2)).run Try.prog w = .ok (.int .u8 16) w := fun _ => by kernel_rfl
  go_enter Try.func4, Try.ntmps4
  go_wp2_with (first | (go_at_call 11; (with_reducible refine (cshown_c _).mono ?_); rintro e w1 ⟨rfl, rfl⟩) | (go_at_call 9; (with_reducible refine (cis_c _ _ _ _ _).mono ?_); rintro e w1 ⟨rfl, rfl⟩))
  refine wp_loop_rounds 3 ?_
  rw [rounds_succ]
  go_wp2_with (first | (go_at_call 11; (with_reducible refine (cshown_c _).mono ?_); rintro e w1 ⟨rfl, rfl⟩) | (go_at_call 9; (with_reducible refine (cis_c _ _ _ _ _).mono ?_); rintro e w1 ⟨rfl, rfl⟩))
  refine wp_loop_rounds 4 ?_
  rw [rounds_succ]
  go_wp2_with (first | (go_at_call 11; (with_reducible refine (cshown_c _).mono ?_); rintro e w1 ⟨rfl, rfl⟩) | (go_at_call 9; (with_reducible refine (cis_c _ _ _ _ _).mono ?_); rintro e w1 ⟨rfl, rfl⟩))
  rw [rounds_succ]
  go_wp2_with (first | (go_at_call 11; (with_reducible refine (cshown_c _).mono ?_); rintro e w1 ⟨rfl, rfl⟩) | (go_at_call 9; (with_reducible refine (cis_c _ _ _ _ _).mono ?_); rintro e w1 ⟨rfl, rfl⟩))
  rw [rounds_succ]
  go_wp2_with (first | (go_at_call 11; (with_reducible refine (cshown_c _).mono ?_); rintro e w1 ⟨rfl, rfl⟩) | (go_at_call 9; (with_reducible refine (cis_c _ _ _ _ _).mono ?_); rintro e w1 ⟨rfl, rfl⟩))
  rw [rounds_succ]
  go_wp2_with (first | (go_at_call 11; (with_reducible refine (cshown_c _).mono ?_); rintro e w1 ⟨rfl, rfl⟩) | (go_at_call 9; (with_reducible refine (cis_c _ _ _ _ _).mono ?_); rintro e w1 ⟨rfl, rfl⟩))
  rw [rounds_succ]
  go_wp2_with (first | (go_at_call 11; (with_reducible refine (cshown_c _).mono ?_); rintro e w1 ⟨rfl, rfl⟩) | (go_at_call 9; (with_reducible refine (cis_c _ _ _ _ _).mono ?_); rintro e w1 ⟨rfl, rfl⟩))
  refine wp_loop_rounds 4 ?_
  rw [rounds_succ]
  go_wp2_with (first | (go_at_call 11; (with_reducible refine (cshown_c _).mono ?_); rintro e w1 ⟨rfl, rfl⟩) | (go_at_call 9; (with_reducible refine (cis_c _ _ _ _ _).mono ?_); rintro e w1 ⟨rfl, rfl⟩))
  rw [rounds_succ]
  go_wp2_with (first | (go_at_call 11; (with_reducible refine (cshown_c _).mono ?_); rintro e w1 ⟨rfl, rfl⟩) | (go_at_call 9; (with_reducible refine (cis_c _ _ _ _ _).mono ?_); rintro e w1 ⟨rfl, rfl⟩))
  rw [rounds_succ]
  go_wp2_with (first | (go_at_call 11; (with_reducible refine (cshown_c _).mono ?_); rintro e w1 ⟨rfl, rfl⟩) | (go_at_call 9; (with_reducible refine (cis_c _ _ _ _ _).mono ?_); rintro e w1 ⟨rfl, rfl⟩))
  rw [rounds_succ]
  go_wp2_with (first | (go_at_call 11; (with_reducible refine (cshown_c _).mono ?_); rintro e w1 ⟨rfl, rfl⟩) | (go_at_call 9; (with_reducible refine (cis_c _ _ _ _ _).mono ?_); rintro e w1 ⟨rfl, rfl⟩))
  rw [rounds_succ]
  go_wp2_with (first | (go_at_call 11; (with_reducible refine (cshown_c _).mono ?_); rintro e w1 ⟨rfl, rfl⟩) | (go_at_call 9; (with_reducible refine (cis_c _ _ _ _ _).mono ?_); rintro e w1 ⟨rfl, rfl⟩))
  go_ret
  exact ⟨rfl, (by repeat' (first | (with_reducible exact Below.refl _ _) | (with_reducible assumption) | (with_reducible refine Below.alloc ?_ ?_ _) | (with_reducible refine Below.setCell ?_ ?_ _) | (with_reducible refine Below.drew ?_) | (with_reducible refine below_dn ?_ _) | (with_reducible refine Below.trans ?_ (Below.mono (by assumption) ?_)) | go_size))⟩

theorem condOne_walk (wd : Bool) (a b : BitVec 64) (w : World) : Calls Try.prog 4 #[.bool (wd), .int .u64 (N a), .int .u64 (N b)] w fun e w' => e = .returned (.bool true) ∧ Below w.heap.size w w' := by
  obtain ⟨p, q, r, s, t, e1, e2, e3, e4, e5, h | ⟨h1, h2, h3⟩⟩ := Cond.one wd a b
  · obtain ⟨rfl, rfl, rfl, rfl, rfl⟩ := h
    exact condOne_e wd a b e1 e2 e3 e4 e5 w
  · subst h1 h2 h3
    cases p <;> cases s
    · exact condOne_00 wd a b e1 e2 e3 e4 e5 w
    · exact condOne_01 wd a b e1 e2 e3 e4 e5 w
    · exact condOne_10 wd a b e1 e2 e3 e4 e5 w
    · exact condOne_11 wd a b e1 e2 e3 e4 e5 w

end Hk
