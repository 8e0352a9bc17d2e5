/- Package alu: Swap; memory is as it was. No condition but those in each statement. -/
import Derived.Test.YtbffiejpocjdmaaProg
import Derived.Test.YtbffiejpocjdmaaWd
import Derived.Test.YtbffiejpocjdmaaAluSw
import Derived.Test.YtbffiejpocjdmaaRb1
import Derived.Test.YtbffiejpocjdmaaRc1
namespace Hk
open Go Go.RowKit Go.Proofs
set_option linter.unusedSimpArgs false
set_option linter.unusedVariables false
set_option maxRecDepth 100000
theorem revb_c (x : BitVec 64) (w : World) : Calls Try.prog 23 #[.int .u64 (N x)] w fun e w' => e = .returned (.int .u64 (N (Alu.rb x))) ∧ w = w' := by
  go_enter Try.func23, Try.ntmps23
  go_wp2
  go_ret
  exact ⟨rfl, rfl⟩

theorem quiet_same {f : FuncId} {args : Array Value} {w : World} {n : Nat} {v : Value} (h : Calls Try.prog f args (w.drewN n) fun e w' => e = .returned v ∧ w.drewN n = w') : Calls Try.prog f args (w.drewN n) fun e w' => e = .returned v ∧ ∃ n', w' = w.drewN n' := h.mono fun _ _ ⟨a, b⟩ => ⟨a, n, b.symm⟩

theorem swap_t16 (a : BitVec 64) (w : World) : Calls Try.prog 13 #[.bool (true), .int .i64 16, .int .u64 (N a)] w fun e w' => e = .returned (.tuple #[.int .u64 (N (Alu.val (Alu.swap true 16 a))), .int .i64 (Alu.err (Alu.swap true 16 a))]) ∧ Below w.heap.size w w' := by
  have e : Alu.swap true 16 a = some (Alu.rb (a <<< 48) &&& (1#64 <<< 16 - 1#64)) := congrArg some (Alu.turn_rb 2 (by omega) (by omega) a)
  rw [e, Alu.val_some, Alu.err_some]
  go_enter Try.func13, Try.ntmps13
  go_wp2_with (first | (go_at_call 23; (with_reducible refine (revb_c _ _).mono ?_); rintro e w1 ⟨rfl, rfl⟩))
  go_quiet ((go_at_call 23; exact quiet_same (revb_c _ _)))
  go_wp2
  go_ret2
  first | exact ⟨rfl, (by repeat' (first | (with_reducible exact Below.refl _ _) | (with_reducible assumption) | (with_reducible refine Below.alloc ?_ ?_ _) | (with_reducible refine Below.setCell ?_ ?_ _) | (with_reducible refine Below.drew ?_) | (with_reducible refine below_dn ?_ _) | (with_reducible refine Below.trans ?_ (Below.mono (by assumption) ?_)) | go_size))⟩ | exact ⟨by simp, (by repeat' (first | (with_reducible exact Below.refl _ _) | (with_reducible assumption) | (with_reducible refine Below.alloc ?_ ?_ _) | (with_reducible refine Below.setCell ?_ ?_ _) | (with_reducible refine Below.drew ?_) | (with_reducible refine below_dn ?_ _) | (with_reducible refine Below.trans ?_ (Below.mono (by assumption) ?_)) | go_size))⟩

theorem swap_f16 (a : BitVec 64) (w : World) : Calls Try.prog 13 #[.bool (false), .int .i64 16, .int .u64 (N a)] w fun e w' => e = .returned (.tuple #[.int .u64 (N (Alu.val (Alu.swap false 16 a))), .int .i64 (Alu.err (Alu.swap false 16 a))]) ∧ Below w.heap.size w w' := by
  have e : Alu.swap false 16 a = some (a <<< 48 >>> 48) := rfl
  rw [e, Alu.val_some, Alu.err_some]
  go_enter Try.func13, Try.ntmps13
  go_wp2_with (first | (go_at_call 23; (with_reducible refine (revb_c _ _).mono ?_); rintro e w1 ⟨rfl, rfl⟩))
  go_ret2
  first | exact ⟨rfl, (by repeat' (first | (with_reducible exact Below.refl _ _) | (with_reducible assumption) | (with_reducible refine Below.alloc ?_ ?_ _) | (with_reducible refine Below.setCell ?_ ?_ _) | (with_reducible refine Below.drew ?_) | (with_reducible refine below_dn ?_ _) | (with_reducible refine Below.trans ?_ (Below.mono (by assumption) ?_)) | go_size))⟩ | exact ⟨by simp, (by repeat' (first | (with_reducible exact Below.refl _ _) | (with_reducible assumption) | (with_reducible refine Below.alloc ?_ ?_ _) | (with_reducible refine Below.setCell ?_ ?_ _) | (with_reducible refine Below.drew ?_) | (with_reducible refine below_dn ?_ _) | (with_reducible refine Below.trans ?_ (Below.mono (by assumption) ?_)) | go_size))⟩

theorem swap_t32 (a : BitVec 64) (w : World) : Calls Try.prog 13 #[.bool (true), .int .i64 32, .int .u64 (N a)] w fun e w' => e = .returned (.tuple #[.int .u64 (N (Alu.val (Alu.swap true 32 a))), .int .i64 (Alu.err (Alu.swap true 32 a))]) ∧ Below w.heap.size w w' := by
  have e : Alu.swap true 32 a = some (Alu.rb (a <<< 32) &&& (1#64 <<< 32 - 1#64)) := congrArg some (Alu.turn_rb 4 (by omega) (by omega) a)
  rw [e, Alu.val_some, Alu.err_some]
  go_enter Try.func13, Try.ntmps13
  go_wp2_with (first | (go_at_call 23; (with_reducible refine (revb_c _ _).mono ?_); rintro e w1 ⟨rfl, rfl⟩))
  go_quiet ((go_at_call 23; exact quiet_same (revb_c _ _)))
  go_wp2
  go_ret2
  first | exact ⟨rfl, (by repeat' (first | (with_reducible exact Below.refl _ _) | (with_reducible assumption) | (with_reducible refine Below.alloc ?_ ?_ _) | (with_reducible refine Below.setCell ?_ ?_ _) | (with_reducible refine Below.drew ?_) | (with_reducible refine below_dn ?_ _) | (with_reducible refine Below.trans ?_ (Below.mono (by assumption) ?_)) | go_size))⟩ | exact ⟨by simp, (by repeat' (first | (with_reducible exact Below.refl _ _) | (with_reducible assumption) | (with_reducible refine Below.alloc ?_ ?_ _) | (with_reducible refine Below.setCell ?_ ?_ _) | (with_reducible refine Below.drew ?_) | (with_reducible refine below_dn ?_ _) | (with_reducible refine Below.trans ?_ (Below.mono (by assumption) ?_)) | go_size))⟩

theorem swap_f32 (a : BitVec 64) (w : World) : Calls Try.prog 13 #[.bool (false), .int .i64 32, .int .u64 (N a)] w fun e w' => e = .returned (.tuple #[.int .u64 (N (Alu.val (Alu.swap false 32 a))), .int .i64 (Alu.err (Alu.swap false 32 a))]) ∧ Below w.heap.size w w' := by
  have e : Alu.swap false 32 a = some (a <<< 32 >>> 32) := rfl
  rw [e, Alu.val_some, Alu.err_some]
  go_enter Try.func13, Try.ntmps13
  go_wp2_with (first | (go_at_call 23; (with_reducible refine (revb_c _ _).mono ?_); rintro e w1 ⟨rfl, rfl⟩))
  go_ret2
  first | exact ⟨rfl, (by repeat' (first | (with_reducible exact Below.refl _ _) | (with_reducible assumption) | (with_reducible refine Below.alloc ?_ ?_ _) | (with_reducible refine Below.setCell ?_ ?_ _) | (with_reducible refine Below.drew ?_) | (with_reducible refine below_dn ?_ _) | (with_reducible refine Below.trans ?_ (Below.mono (by assumption) ?_)) | go_size))⟩ | exact ⟨by simp, (by repeat' (first | (with_reducible exact Below.refl _ _) | (with_reducible assumption) | (with_reducible refine Below.alloc ?_ ?_ _) | (with_reducible refine Below.setCell ?_ ?_ _) | (with_reducible refine Below.drew ?_) | (with_reducible refine below_dn ?_ _) | (with_reducible refine Below.trans ?_ (Below.mono (by assumption) ?_)) | go_size))⟩

theorem swap_t64 (a : BitVec 64) (w : World) : Calls Try.prog 13 #[.bool (true), .int .i64 64, .int .u64 (N a)] w fun e w' => e = .returned (.tuple #[.int .u64 (N (Alu.val (Alu.swap true 64 a))), .int .i64 (Alu.err (Alu.swap true 64 a))]) ∧ Below w.heap.size w w' := by
  have e : Alu.swap true 64 a = some (Alu.rb (a <<< 0) &&& (1#64 <<< 64 - 1#64)) := congrArg some (Alu.turn_rb 8 (by omega) (by omega) a)
  rw [e, Alu.val_some, Alu.err_some]
  go_enter Try.func13, Try.ntmps13
  go_wp2_with (first | (go_at_call 23; (with_reducible refine (revb_c _ _).mono ?_); rintro e w1 ⟨rfl, rfl⟩))
  go_quiet ((go_at_call 23; exact quiet_same (revb_c _ _)))
  go_wp2
  go_ret2
  first | exact ⟨rfl, (by repeat' (first | (with_reducible exact Below.refl _ _) | (with_reducible assumption) | (with_reducible refine Below.alloc ?_ ?_ _) | (with_reducible refine Below.setCell ?_ ?_ _) | (with_reducible refine Below.drew ?_) | (with_reducible refine below_dn ?_ _) | (with_reducible refine Below.trans ?_ (Below.mono (by assumption) ?_)) | go_size))⟩ | exact ⟨by simp, (by repeat' (first | (with_reducible exact Below.refl _ _) | (with_reducible assumption) | (with_reducible refine Below.alloc ?_ ?_ _) | (with_reducible refine Below.setCell ?_ ?_ _) | (with_reducible refine Below.drew ?_) | (with_reducible refine below_dn ?_ _) | (with_reducible refine Below.trans ?_ (Below.mono (by assumption) ?_)) | go_size))⟩

theorem swap_f64 (a : BitVec 64) (w : World) : Calls Try.prog 13 #[.bool (false), .int .i64 64, .int .u64 (N a)] w fun e w' => e = .returned (.tuple #[.int .u64 (N (Alu.val (Alu.swap false 64 a))), .int .i64 (Alu.err (Alu.swap false 64 a))]) ∧ Below w.heap.size w w' := by
  have e : Alu.swap false 64 a = some (a <<< 0 >>> 0) := rfl
  rw [e, Alu.val_some, Alu.err_some]
  go_enter Try.func13, Try.ntmps13
  go_wp2_with (first | (go_at_call 23; (with_reducible refine (revb_c _ _).mono ?_); rintro e w1 ⟨rfl, rfl⟩))
  go_ret2
  first | exact ⟨rfl, (by repeat' (first | (with_reducible exact Below.refl _ _) | (with_reducible assumption) | (with_reducible refine Below.alloc ?_ ?_ _) | (with_reducible refine Below.setCell ?_ ?_ _) | (with_reducible refine Below.drew ?_) | (with_reducible refine below_dn ?_ _) | (with_reducible refine Below.trans ?_ (Below.mono (by assumption) ?_)) | go_size))⟩ | exact ⟨by simp, (by repeat' (first | (with_reducible exact Below.refl _ _) | (with_reducible assumption) | (with_reducible refine Below.alloc ?_ ?_ _) | (with_reducible refine Below.setCell ?_ ?_ _) | (with_reducible refine Below.drew ?_) | (with_reducible refine below_dn ?_ _) | (with_reducible refine Below.trans ?_ (Below.mono (by assumption) ?_)) | go_size))⟩

theorem swap_none (k : Int) (h1 : ¬ k = 16) (h2 : ¬ k = 32) (h3 : ¬ k = 64) (t : Bool) (a : BitVec 64) (w : World) : Calls Try.prog 13 #[.bool (t), .int .i64 k, .int .u64 (N a)] w fun e w' => e = .returned (.tuple #[.int .u64 (N (Alu.val (Alu.swap t k a))), .int .i64 (Alu.err (Alu.swap t k a))]) ∧ Below w.heap.size w w' := by
  rw [Alu.swap_none t k a h1 h2 h3, Alu.val_none, Alu.err_none]
  go_enter Try.func13, Try.ntmps13
  go_wp2
  go_ret2
  first | exact ⟨rfl, (by repeat' (first | (with_reducible exact Below.refl _ _) | (with_reducible assumption) | (with_reducible refine Below.alloc ?_ ?_ _) | (with_reducible refine Below.setCell ?_ ?_ _) | (with_reducible refine Below.drew ?_) | (with_reducible refine below_dn ?_ _) | (with_reducible refine Below.trans ?_ (Below.mono (by assumption) ?_)) | go_size))⟩ | exact ⟨by simp, (by repeat' (first | (with_reducible exact Below.refl _ _) | (with_reducible assumption) | (with_reducible refine Below.alloc ?_ ?_ _) | (with_reducible refine Below.setCell ?_ ?_ _) | (with_reducible refine Below.drew ?_) | (with_reducible refine below_dn ?_ _) | (with_reducible refine Below.trans ?_ (Below.mono (by assumption) ?_)) | go_size))⟩

theorem swap_c (t : Bool) (k : Int) (a : BitVec 64) (w : World) : Calls Try.prog 13 #[.bool (t), .int .i64 k, .int .u64 (N a)] w fun e w' => e = .returned (.tuple #[.int .u64 (N (Alu.val (Alu.swap t k a))), .int .i64 (Alu.err (Alu.swap t k a))]) ∧ Below w.heap.size w w' := by
  by_cases h1 : k = 16
  · subst h1; cases t
    · exact swap_f16 a w
    · exact swap_t16 a w
  by_cases h2 : k = 32
  · subst h2; cases t
    · exact swap_f32 a w
    · exact swap_t32 a w
  by_cases h3 : k = 64
  · subst h3; cases t
    · exact swap_f64 a w
    · exact swap_t64 a w
  exact swap_none k h1 h2 h3 t a w

end Hk
