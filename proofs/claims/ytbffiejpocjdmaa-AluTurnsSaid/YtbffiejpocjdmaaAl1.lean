/- Package alu: divide; it returns what the machine's words say, and memory is as it was. No condition but that in each statement. -/
import Derived.Test.YtbffiejpocjdmaaProg
import Derived.Test.YtbffiejpocjdmaaWd
import Derived.Test.YtbffiejpocjdmaaAluDo
import Derived.Test.YtbffiejpocjdmaaWa
namespace Hk
open Go Go.RowKit Go.Proofs
set_option linter.unusedSimpArgs false
set_option linter.unusedVariables false
set_option maxRecDepth 100000
theorem div0_i64 (x y : BitVec 64) (h : (y == 0#64) = true) (l : Bool) (w : World) : Calls Try.prog 24 #[.int .i64 (Z x), .int .i64 (Z y), .bool l] w fun e w' => e = .returned (.int .i64 (Z (if l then x else 0#64))) ∧ w = w' := by
  cases l
  all_goals
    go_enter Try.func24, Try.ntmps24
    go_wp2
    go_ret
    exact ⟨rfl, rfl⟩

theorem div1_i64 (x y : BitVec 64) (h : (y == 0#64) = false) (l : Bool) (w : World) : Calls Try.prog 24 #[.int .i64 (Z x), .int .i64 (Z y), .bool l] w fun e w' => e = .returned (.int .i64 (Z (if l then (x.srem y) else (x.sdiv y)))) ∧ w = w' := by
  have hy : y ≠ 0#64 := by simpa using h
  cases l
  all_goals
    go_enter Try.func24, Try.ntmps24
    go_wp2
    go_ret
    exact ⟨rfl, rfl⟩

theorem div0_u64 (x y : BitVec 64) (h : (y == 0#64) = true) (l : Bool) (w : World) : Calls Try.prog 25 #[.int .u64 (N x), .int .u64 (N y), .bool l] w fun e w' => e = .returned (.int .u64 (N (if l then x else 0#64))) ∧ w = w' := by
  cases l
  all_goals
    go_enter Try.func25, Try.ntmps25
    go_wp2
    go_ret
    exact ⟨rfl, rfl⟩

theorem div1_u64 (x y : BitVec 64) (h : (y == 0#64) = false) (l : Bool) (w : World) : Calls Try.prog 25 #[.int .u64 (N x), .int .u64 (N y), .bool l] w fun e w' => e = .returned (.int .u64 (N (if l then (x % y) else (x / y)))) ∧ w = w' := by
  have hy : y ≠ 0#64 := by simpa using h
  cases l
  all_goals
    go_enter Try.func25, Try.ntmps25
    go_wp2
    go_ret
    exact ⟨rfl, rfl⟩

theorem div0_i32 (x y : BitVec 32) (h : (y == 0#32) = true) (l : Bool) (w : World) : Calls Try.prog 26 #[.int .i32 (Z3 x), .int .i32 (Z3 y), .bool l] w fun e w' => e = .returned (.int .i32 (Z3 (if l then x else 0#32))) ∧ w = w' := by
  cases l
  all_goals
    go_enter Try.func26, Try.ntmps26
    go_wp2
    go_ret
    exact ⟨rfl, rfl⟩

theorem div1_i32 (x y : BitVec 32) (h : (y == 0#32) = false) (l : Bool) (w : World) : Calls Try.prog 26 #[.int .i32 (Z3 x), .int .i32 (Z3 y), .bool l] w fun e w' => e = .returned (.int .i32 (Z3 (if l then (x.srem y) else (x.sdiv y)))) ∧ w = w' := by
  have hy : y ≠ 0#32 := by simpa using h
  cases l
  all_goals
    go_enter Try.func26, Try.ntmps26
    go_wp2
    go_ret
    exact ⟨rfl, rfl⟩

theorem div0_u32 (x y : BitVec 32) (h : (y == 0#32) = true) (l : Bool) (w : World) : Calls Try.prog 27 #[.int .u32 (N3 x), .int .u32 (N3 y), .bool l] w fun e w' => e = .returned (.int .u32 (N3 (if l then x else 0#32))) ∧ w = w' := by
  cases l
  all_goals
    go_enter Try.func27, Try.ntmps27
    go_wp2
    go_ret
    exact ⟨rfl, rfl⟩

theorem div1_u32 (x y : BitVec 32) (h : (y == 0#32) = false) (l : Bool) (w : World) : Calls Try.prog 27 #[.int .u32 (N3 x), .int .u32 (N3 y), .bool l] w fun e w' => e = .returned (.int .u32 (N3 (if l then (x % y) else (x / y)))) ∧ w = w' := by
  have hy : y ≠ 0#32 := by simpa using h
  cases l
  all_goals
    go_enter Try.func27, Try.ntmps27
    go_wp2
    go_ret
    exact ⟨rfl, rfl⟩

theorem div_i64 (x y : BitVec 64) (l : Bool) (w : World) : Calls Try.prog 24 #[.int .i64 (Z x), .int .i64 (Z y), .bool l] w fun e w' => e = .returned (.int .i64 (Z (if l then (x.srem y) else (x.sdiv y)))) ∧ w = w' := by
  cases h : (y == 0#64)
  · exact div1_i64 x y h l w
  · have e : y = 0#64 := by simpa using h
    subst e
    have := div0_i64 x 0#64 h l w
    obtain ⟨e1, e2, e3, e4⟩ := Alu.div_zero 64 x
    simp only [e1, e2, e3, e4]
    exact this

theorem div_u64 (x y : BitVec 64) (l : Bool) (w : World) : Calls Try.prog 25 #[.int .u64 (N x), .int .u64 (N y), .bool l] w fun e w' => e = .returned (.int .u64 (N (if l then (x % y) else (x / y)))) ∧ w = w' := by
  cases h : (y == 0#64)
  · exact div1_u64 x y h l w
  · have e : y = 0#64 := by simpa using h
    subst e
    have := div0_u64 x 0#64 h l w
    obtain ⟨e1, e2, e3, e4⟩ := Alu.div_zero 64 x
    simp only [e1, e2, e3, e4]
    exact this

theorem div_i32 (x y : BitVec 32) (l : Bool) (w : World) : Calls Try.prog 26 #[.int .i32 (Z3 x), .int .i32 (Z3 y), .bool l] w fun e w' => e = .returned (.int .i32 (Z3 (if l then (x.srem y) else (x.sdiv y)))) ∧ w = w' := by
  cases h : (y == 0#32)
  · exact div1_i32 x y h l w
  · have e : y = 0#32 := by simpa using h
    subst e
    have := div0_i32 x 0#32 h l w
    obtain ⟨e1, e2, e3, e4⟩ := Alu.div_zero 32 x
    simp only [e1, e2, e3, e4]
    exact this

theorem div_u32 (x y : BitVec 32) (l : Bool) (w : World) : Calls Try.prog 27 #[.int .u32 (N3 x), .int .u32 (N3 y), .bool l] w fun e w' => e = .returned (.int .u32 (N3 (if l then (x % y) else (x / y)))) ∧ w = w' := by
  cases h : (y == 0#32)
  · exact div1_u32 x y h l w
  · have e : y = 0#32 := by simpa using h
    subst e
    have := div0_u32 x 0#32 h l w
    obtain ⟨e1, e2, e3, e4⟩ := Alu.div_zero 32 x
    simp only [e1, e2, e3, e4]
    exact this

end Hk
