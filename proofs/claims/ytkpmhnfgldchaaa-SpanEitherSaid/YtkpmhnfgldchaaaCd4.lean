/- The reference of conditions: Not; old memory is as it was. No condition but those in each statement. -/
import Derived.Test.YtkpmhnfgldchaaaProg
import Derived.Test.YtkpmhnfgldchaaaWd
import Derived.Test.YtkpmhnfgldchaaaCondDo
import Derived.LoopN
namespace Hk
open Go Go.RowKit Go.Proofs
set_option linter.unusedSimpArgs false
set_option linter.unusedVariables false
set_option maxRecDepth 100000
attribute [go_sem] Cond.val_some Cond.err_some Cond.val_none Cond.err_none
theorem rnotp_16 (b : Nat) (w : World) (c0 : w.cell? ⟨b, 0, none⟩ = some (.int .u8 16)) (c1 : w.cell? ⟨b, 1, none⟩ = some (.int .u8 80)) (c2 : w.cell? ⟨b, 2, none⟩ = some (.int .u8 32)) (c3 : w.cell? ⟨b, 3, none⟩ = some (.int .u8 176)) (c4 : w.cell? ⟨b, 4, none⟩ = some (.int .u8 48)) (c5 : w.cell? ⟨b, 5, none⟩ = some (.int .u8 160)) (c6 : w.cell? ⟨b, 6, none⟩ = some (.int .u8 96)) (c7 : w.cell? ⟨b, 7, none⟩ = some (.int .u8 208)) (c8 : w.cell? ⟨b, 8, none⟩ = some (.int .u8 112)) (c9 : w.cell? ⟨b, 9, none⟩ = some (.int .u8 192)) : Calls Try.prog 33 #[.slice (some ⟨b, 0, none⟩) 10 10, .int .u8 16] w fun e w' => e = .returned (.tuple #[.int .u8 ((Cond.neg 16).getD 0), .bool (Cond.neg 16).isSome]) ∧ w = w' := by
  go_enter Try.func33, Try.ntmps33
  go_wp2
  refine wp_loop_rounds 1 ?_
  rw [rounds_succ]
  go_wp2
  go_ret2
  exact ⟨rfl, rfl⟩

theorem rnotp_80 (b : Nat) (w : World) (c0 : w.cell? ⟨b, 0, none⟩ = some (.int .u8 16)) (c1 : w.cell? ⟨b, 1, none⟩ = some (.int .u8 80)) (c2 : w.cell? ⟨b, 2, none⟩ = some (.int .u8 32)) (c3 : w.cell? ⟨b, 3, none⟩ = some (.int .u8 176)) (c4 : w.cell? ⟨b, 4, none⟩ = some (.int .u8 48)) (c5 : w.cell? ⟨b, 5, none⟩ = some (.int .u8 160)) (c6 : w.cell? ⟨b, 6, none⟩ = some (.int .u8 96)) (c7 : w.cell? ⟨b, 7, none⟩ = some (.int .u8 208)) (c8 : w.cell? ⟨b, 8, none⟩ = some (.int .u8 112)) (c9 : w.cell? ⟨b, 9, none⟩ = some (.int .u8 192)) : Calls Try.prog 33 #[.slice (some ⟨b, 0, none⟩) 10 10, .int .u8 80] w fun e w' => e = .returned (.tuple #[.int .u8 ((Cond.neg 80).getD 0), .bool (Cond.neg 80).isSome]) ∧ w = w' := by
  go_enter Try.func33, Try.ntmps33
  go_wp2
  refine wp_loop_rounds 1 ?_
  rw [rounds_succ]
  go_wp2
  go_ret2
  exact ⟨rfl, rfl⟩

theorem rnotp_32 (b : Nat) (w : World) (c0 : w.cell? ⟨b, 0, none⟩ = some (.int .u8 16)) (c1 : w.cell? ⟨b, 1, none⟩ = some (.int .u8 80)) (c2 : w.cell? ⟨b, 2, none⟩ = some (.int .u8 32)) (c3 : w.cell? ⟨b, 3, none⟩ = some (.int .u8 176)) (c4 : w.cell? ⟨b, 4, none⟩ = some (.int .u8 48)) (c5 : w.cell? ⟨b, 5, none⟩ = some (.int .u8 160)) (c6 : w.cell? ⟨b, 6, none⟩ = some (.int .u8 96)) (c7 : w.cell? ⟨b, 7, none⟩ = some (.int .u8 208)) (c8 : w.cell? ⟨b, 8, none⟩ = some (.int .u8 112)) (c9 : w.cell? ⟨b, 9, none⟩ = some (.int .u8 192)) : Calls Try.prog 33 #[.slice (some ⟨b, 0, none⟩) 10 10, .int .u8 32] w fun e w' => e = .returned (.tuple #[.int .u8 ((Cond.neg 32).getD 0), .bool (Cond.neg 32).isSome]) ∧ w = w' := by
  go_enter Try.func33, Try.ntmps33
  go_wp2
  refine wp_loop_rounds 2 ?_
  rw [rounds_succ]
  go_wp2
  rw [rounds_succ]
  go_wp2
  go_ret2
  exact ⟨rfl, rfl⟩

theorem rnotp_176 (b : Nat) (w : World) (c0 : w.cell? ⟨b, 0, none⟩ = some (.int .u8 16)) (c1 : w.cell? ⟨b, 1, none⟩ = some (.int .u8 80)) (c2 : w.cell? ⟨b, 2, none⟩ = some (.int .u8 32)) (c3 : w.cell? ⟨b, 3, none⟩ = some (.int .u8 176)) (c4 : w.cell? ⟨b, 4, none⟩ = some (.int .u8 48)) (c5 : w.cell? ⟨b, 5, none⟩ = some (.int .u8 160)) (c6 : w.cell? ⟨b, 6, none⟩ = some (.int .u8 96)) (c7 : w.cell? ⟨b, 7, none⟩ = some (.int .u8 208)) (c8 : w.cell? ⟨b, 8, none⟩ = some (.int .u8 112)) (c9 : w.cell? ⟨b, 9, none⟩ = some (.int .u8 192)) : Calls Try.prog 33 #[.slice (some ⟨b, 0, none⟩) 10 10, .int .u8 176] w fun e w' => e = .returned (.tuple #[.int .u8 ((Cond.neg 176).getD 0), .bool (Cond.neg 176).isSome]) ∧ w = w' := by
  go_enter Try.func33, Try.ntmps33
  go_wp2
  refine wp_loop_rounds 2 ?_
  rw [rounds_succ]
  go_wp2
  rw [rounds_succ]
  go_wp2
  go_ret2
  exact ⟨rfl, rfl⟩

theorem rnotp_48 (b : Nat) (w : World) (c0 : w.cell? ⟨b, 0, none⟩ = some (.int .u8 16)) (c1 : w.cell? ⟨b, 1, none⟩ = some (.int .u8 80)) (c2 : w.cell? ⟨b, 2, none⟩ = some (.int .u8 32)) (c3 : w.cell? ⟨b, 3, none⟩ = some (.int .u8 176)) (c4 : w.cell? ⟨b, 4, none⟩ = some (.int .u8 48)) (c5 : w.cell? ⟨b, 5, none⟩ = some (.int .u8 160)) (c6 : w.cell? ⟨b, 6, none⟩ = some (.int .u8 96)) (c7 : w.cell? ⟨b, 7, none⟩ = some (.int .u8 208)) (c8 : w.cell? ⟨b, 8, none⟩ = some (.int .u8 112)) (c9 : w.cell? ⟨b, 9, none⟩ = some (.int .u8 192)) : Calls Try.prog 33 #[.slice (some ⟨b, 0, none⟩) 10 10, .int .u8 48] w fun e w' => e = .returned (.tuple #[.int .u8 ((Cond.neg 48).getD 0), .bool (Cond.neg 48).isSome]) ∧ w = w' := by
  go_enter Try.func33, Try.ntmps33
  go_wp2
  refine wp_loop_rounds 3 ?_
  rw [rounds_succ]
  go_wp2
  rw [rounds_succ]
  go_wp2
  rw [rounds_succ]
  go_wp2
  go_ret2
  exact ⟨rfl, rfl⟩

theorem rnotp_160 (b : Nat) (w : World) (c0 : w.cell? ⟨b, 0, none⟩ = some (.int .u8 16)) (c1 : w.cell? ⟨b, 1, none⟩ = some (.int .u8 80)) (c2 : w.cell? ⟨b, 2, none⟩ = some (.int .u8 32)) (c3 : w.cell? ⟨b, 3, none⟩ = some (.int .u8 176)) (c4 : w.cell? ⟨b, 4, none⟩ = some (.int .u8 48)) (c5 : w.cell? ⟨b, 5, none⟩ = some (.int .u8 160)) (c6 : w.cell? ⟨b, 6, none⟩ = some (.int .u8 96)) (c7 : w.cell? ⟨b, 7, none⟩ = some (.int .u8 208)) (c8 : w.cell? ⟨b, 8, none⟩ = some (.int .u8 112)) (c9 : w.cell? ⟨b, 9, none⟩ = some (.int .u8 192)) : Calls Try.prog 33 #[.slice (some ⟨b, 0, none⟩) 10 10, .int .u8 160] w fun e w' => e = .returned (.tuple #[.int .u8 ((Cond.neg 160).getD 0), .bool (Cond.neg 160).isSome]) ∧ w = w' := by
  go_enter Try.func33, Try.ntmps33
  go_wp2
  refine wp_loop_rounds 3 ?_
  rw [rounds_succ]
  go_wp2
  rw [rounds_succ]
  go_wp2
  rw [rounds_succ]
  go_wp2
  go_ret2
  exact ⟨rfl, rfl⟩

theorem rnotp_96 (b : Nat) (w : World) (c0 : w.cell? ⟨b, 0, none⟩ = some (.int .u8 16)) (c1 : w.cell? ⟨b, 1, none⟩ = some (.int .u8 80)) (c2 : w.cell? ⟨b, 2, none⟩ = some (.int .u8 32)) (c3 : w.cell? ⟨b, 3, none⟩ = some (.int .u8 176)) (c4 : w.cell? ⟨b, 4, none⟩ = some (.int .u8 48)) (c5 : w.cell? ⟨b, 5, none⟩ = some (.int .u8 160)) (c6 : w.cell? ⟨b, 6, none⟩ = some (.int .u8 96)) (c7 : w.cell? ⟨b, 7, none⟩ = some (.int .u8 208)) (c8 : w.cell? ⟨b, 8, none⟩ = some (.int .u8 112)) (c9 : w.cell? ⟨b, 9, none⟩ = some (.int .u8 192)) : Calls Try.prog 33 #[.slice (some ⟨b, 0, none⟩) 10 10, .int .u8 96] w fun e w' => e = .returned (.tuple #[.int .u8 ((Cond.neg 96).getD 0), .bool (Cond.neg 96).isSome]) ∧ w = w' := by
  go_enter Try.func33, Try.ntmps33
  go_wp2
  refine wp_loop_rounds 4 ?_
  rw [rounds_succ]
  go_wp2
  rw [rounds_succ]
  go_wp2
  rw [rounds_succ]
  go_wp2
  rw [rounds_succ]
  go_wp2
  go_ret2
  exact ⟨rfl, rfl⟩

theorem rnotp_208 (b : Nat) (w : World) (c0 : w.cell? ⟨b, 0, none⟩ = some (.int .u8 16)) (c1 : w.cell? ⟨b, 1, none⟩ = some (.int .u8 80)) (c2 : w.cell? ⟨b, 2, none⟩ = some (.int .u8 32)) (c3 : w.cell? ⟨b, 3, none⟩ = some (.int .u8 176)) (c4 : w.cell? ⟨b, 4, none⟩ = some (.int .u8 48)) (c5 : w.cell? ⟨b, 5, none⟩ = some (.int .u8 160)) (c6 : w.cell? ⟨b, 6, none⟩ = some (.int .u8 96)) (c7 : w.cell? ⟨b, 7, none⟩ = some (.int .u8 208)) (c8 : w.cell? ⟨b, 8, none⟩ = some (.int .u8 112)) (c9 : w.cell? ⟨b, 9, none⟩ = some (.int .u8 192)) : Calls Try.prog 33 #[.slice (some ⟨b, 0, none⟩) 10 10, .int .u8 208] w fun e w' => e = .returned (.tuple #[.int .u8 ((Cond.neg 208).getD 0), .bool (Cond.neg 208).isSome]) ∧ w = w' := by
  go_enter Try.func33, Try.ntmps33
  go_wp2
  refine wp_loop_rounds 4 ?_
  rw [rounds_succ]
  go_wp2
  rw [rounds_succ]
  go_wp2
  rw [rounds_succ]
  go_wp2
  rw [rounds_succ]
  go_wp2
  go_ret2
  exact ⟨rfl, rfl⟩

theorem rnotp_112 (b : Nat) (w : World) (c0 : w.cell? ⟨b, 0, none⟩ = some (.int .u8 16)) (c1 : w.cell? ⟨b, 1, none⟩ = some (.int .u8 80)) (c2 : w.cell? ⟨b, 2, none⟩ = some (.int .u8 32)) (c3 : w.cell? ⟨b, 3, none⟩ = some (.int .u8 176)) (c4 : w.cell? ⟨b, 4, none⟩ = some (.int .u8 48)) (c5 : w.cell? ⟨b, 5, none⟩ = some (.int .u8 160)) (c6 : w.cell? ⟨b, 6, none⟩ = some (.int .u8 96)) (c7 : w.cell? ⟨b, 7, none⟩ = some (.int .u8 208)) (c8 : w.cell? ⟨b, 8, none⟩ = some (.int .u8 112)) (c9 : w.cell? ⟨b, 9, none⟩ = some (.int .u8 192)) : Calls Try.prog 33 #[.slice (some ⟨b, 0, none⟩) 10 10, .int .u8 112] w fun e w' => e = .returned (.tuple #[.int .u8 ((Cond.neg 112).getD 0), .bool (Cond.neg 112).isSome]) ∧ w = w' := by
  go_enter Try.func33, Try.ntmps33
  go_wp2
  refine wp_loop_rounds 5 ?_
  rw [rounds_succ]
  go_wp2
  rw [rounds_succ]
  go_wp2
  rw [rounds_succ]
  go_wp2
  rw [rounds_succ]
  go_wp2
  rw [rounds_succ]
  go_wp2
  go_ret2
  exact ⟨rfl, rfl⟩

theorem rnotp_192 (b : Nat) (w : World) (c0 : w.cell? ⟨b, 0, none⟩ = some (.int .u8 16)) (c1 : w.cell? ⟨b, 1, none⟩ = some (.int .u8 80)) (c2 : w.cell? ⟨b, 2, none⟩ = some (.int .u8 32)) (c3 : w.cell? ⟨b, 3, none⟩ = some (.int .u8 176)) (c4 : w.cell? ⟨b, 4, none⟩ = some (.int .u8 48)) (c5 : w.cell? ⟨b, 5, none⟩ = some (.int .u8 160)) (c6 : w.cell? ⟨b, 6, none⟩ = some (.int .u8 96)) (c7 : w.cell? ⟨b, 7, none⟩ = some (.int .u8 208)) (c8 : w.cell? ⟨b, 8, none⟩ = some (.int .u8 112)) (c9 : w.cell? ⟨b, 9, none⟩ = some (.int .u8 192)) : Calls Try.prog 33 #[.slice (some ⟨b, 0, none⟩) 10 10, .int .u8 192] w fun e w' => e = .returned (.tuple #[.int .u8 ((Cond.neg 192).getD 0), .bool (Cond.neg 192).isSome]) ∧ w = w' := by
  go_enter Try.func33, Try.ntmps33
  go_wp2
  refine wp_loop_rounds 5 ?_
  rw [rounds_succ]
  go_wp2
  rw [rounds_succ]
  go_wp2
  rw [rounds_succ]
  go_wp2
  rw [rounds_succ]
  go_wp2
  rw [rounds_succ]
  go_wp2
  go_ret2
  exact ⟨rfl, rfl⟩

theorem rnotp_else (op : Int) (n16 : ¬ op = 16) (n80 : ¬ op = 80) (n32 : ¬ op = 32) (n176 : ¬ op = 176) (n48 : ¬ op = 48) (n160 : ¬ op = 160) (n96 : ¬ op = 96) (n208 : ¬ op = 208) (n112 : ¬ op = 112) (n192 : ¬ op = 192) (b : Nat) (w : World) (c0 : w.cell? ⟨b, 0, none⟩ = some (.int .u8 16)) (c1 : w.cell? ⟨b, 1, none⟩ = some (.int .u8 80)) (c2 : w.cell? ⟨b, 2, none⟩ = some (.int .u8 32)) (c3 : w.cell? ⟨b, 3, none⟩ = some (.int .u8 176)) (c4 : w.cell? ⟨b, 4, none⟩ = some (.int .u8 48)) (c5 : w.cell? ⟨b, 5, none⟩ = some (.int .u8 160)) (c6 : w.cell? ⟨b, 6, none⟩ = some (.int .u8 96)) (c7 : w.cell? ⟨b, 7, none⟩ = some (.int .u8 208)) (c8 : w.cell? ⟨b, 8, none⟩ = some (.int .u8 112)) (c9 : w.cell? ⟨b, 9, none⟩ = some (.int .u8 192)) : Calls Try.prog 33 #[.slice (some ⟨b, 0, none⟩) 10 10, .int .u8 op] w fun e w' => e = .returned (.tuple #[.int .u8 ((Cond.neg op).getD 0), .bool (Cond.neg op).isSome]) ∧ w = w' := by
  have e : Cond.neg op = none := by unfold Cond.neg; simp [n16, n80, n32, n176, n48, n160, n96, n208, n112, n192]
  rw [e]; clear e
  have m16 : ((16 : Int) == op) = false := by simp; omega
  have m80 : ((80 : Int) == op) = false := by simp; omega
  have m32 : ((32 : Int) == op) = false := by simp; omega
  have m176 : ((176 : Int) == op) = false := by simp; omega
  have m48 : ((48 : Int) == op) = false := by simp; omega
  have m160 : ((160 : Int) == op) = false := by simp; omega
  have m96 : ((96 : Int) == op) = false := by simp; omega
  have m208 : ((208 : Int) == op) = false := by simp; omega
  have m112 : ((112 : Int) == op) = false := by simp; omega
  have m192 : ((192 : Int) == op) = false := by simp; omega
  go_enter Try.func33, Try.ntmps33
  go_wp2
  refine wp_loop_rounds 6 ?_
  rw [rounds_succ]
  go_wp2
  rw [rounds_succ]
  go_wp2
  rw [rounds_succ]
  go_wp2
  rw [rounds_succ]
  go_wp2
  rw [rounds_succ]
  go_wp2
  rw [rounds_succ]
  go_wp2
  go_ret2
  exact ⟨rfl, rfl⟩

theorem rnotp_c (op : Int) (b : Nat) (w : World) (c0 : w.cell? ⟨b, 0, none⟩ = some (.int .u8 16)) (c1 : w.cell? ⟨b, 1, none⟩ = some (.int .u8 80)) (c2 : w.cell? ⟨b, 2, none⟩ = some (.int .u8 32)) (c3 : w.cell? ⟨b, 3, none⟩ = some (.int .u8 176)) (c4 : w.cell? ⟨b, 4, none⟩ = some (.int .u8 48)) (c5 : w.cell? ⟨b, 5, none⟩ = some (.int .u8 160)) (c6 : w.cell? ⟨b, 6, none⟩ = some (.int .u8 96)) (c7 : w.cell? ⟨b, 7, none⟩ = some (.int .u8 208)) (c8 : w.cell? ⟨b, 8, none⟩ = some (.int .u8 112)) (c9 : w.cell? ⟨b, 9, none⟩ = some (.int .u8 192)) : Calls Try.prog 33 #[.slice (some ⟨b, 0, none⟩) 10 10, .int .u8 op] w fun e w' => e = .returned (.tuple #[.int .u8 ((Cond.neg op).getD 0), .bool (Cond.neg op).isSome]) ∧ w = w' := by
  by_cases n16 : op = 16
  · subst n16; exact rnotp_16 b w c0 c1 c2 c3 c4 c5 c6 c7 c8 c9
  by_cases n80 : op = 80
  · subst n80; exact rnotp_80 b w c0 c1 c2 c3 c4 c5 c6 c7 c8 c9
  by_cases n32 : op = 32
  · subst n32; exact rnotp_32 b w c0 c1 c2 c3 c4 c5 c6 c7 c8 c9
  by_cases n176 : op = 176
  · subst n176; exact rnotp_176 b w c0 c1 c2 c3 c4 c5 c6 c7 c8 c9
  by_cases n48 : op = 48
  · subst n48; exact rnotp_48 b w c0 c1 c2 c3 c4 c5 c6 c7 c8 c9
  by_cases n160 : op = 160
  · subst n160; exact rnotp_160 b w c0 c1 c2 c3 c4 c5 c6 c7 c8 c9
  by_cases n96 : op = 96
  · subst n96; exact rnotp_96 b w c0 c1 c2 c3 c4 c5 c6 c7 c8 c9
  by_cases n208 : op = 208
  · subst n208; exact rnotp_208 b w c0 c1 c2 c3 c4 c5 c6 c7 c8 c9
  by_cases n112 : op = 112
  · subst n112; exact rnotp_112 b w c0 c1 c2 c3 c4 c5 c6 c7 c8 c9
  by_cases n192 : op = 192
  · subst n192; exact rnotp_192 b w c0 c1 c2 c3 c4 c5 c6 c7 c8 c9
  exact rnotp_else op n16 n80 n32 n176 n48 n160 n96 n208 n112 n192 b w c0 c1 c2 c3 c4 c5 c6 c7 c8 c9

theorem rnot_c (op : Int) (w : World) : Calls Try.prog 13 #[.int .u8 op] w fun e w' => e = .returned (.tuple #[.int .u8 ((Cond.neg op).getD 0), .bool (Cond.neg op).isSome]) ∧ Below w.heap.size w w' := by
  go_enter Try.func13, Try.ntmps13
  go_wp2_with (first | (go_at_call 33; (with_reducible refine (rnotp_c _ _ _ (by simp [go_sem]) (by simp [go_sem]) (by simp [go_sem]) (by simp [go_sem]) (by simp [go_sem]) (by simp [go_sem]) (by simp [go_sem]) (by simp [go_sem]) (by simp [go_sem]) (by simp [go_sem])).mono ?_); rintro e w1 ⟨rfl, rfl⟩))
  go_ret2
  exact ⟨rfl, (by repeat' (first | (with_reducible exact Below.refl _ _) | (with_reducible assumption) | (with_reducible refine Below.alloc ?_ ?_ _) | (with_reducible refine Below.setCell ?_ ?_ _) | (with_reducible refine Below.drew ?_) | (with_reducible refine below_dn ?_ _) | (with_reducible refine Below.trans ?_ (Below.mono (by assumption) ?_)) | go_size))⟩

end Hk
