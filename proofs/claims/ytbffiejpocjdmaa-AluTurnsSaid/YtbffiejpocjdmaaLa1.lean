/- The statements AluLow and AluParts of the Go text: they return true, and old memory is as it was. No condition. -/
import Derived.Test.YtbffiejpocjdmaaProg
import Derived.Test.YtbffiejpocjdmaaWd
import Derived.Test.YtbffiejpocjdmaaAluLaw
import Derived.Test.YtbffiejpocjdmaaAl4
namespace Hk
open Go Go.RowKit Go.Proofs
set_option linter.unusedSimpArgs false
set_option linter.unusedVariables false
set_option maxRecDepth 100000
attribute [go_sem] Alu.val_some Alu.err_some
theorem ashown_c  (w : World) : Calls Try.prog 12 #[] w fun e w' => e = .returned (.bool true) ∧ w = w' := by
  have e1 : Alu.go 48 true 0 7#64 0#64 = some 0#64 := by decide
  have e2 : Alu.go 144 true 0 7#64 0#64 = some 7#64 := by decide
  have e3 : Alu.go 16 false 0 0#64 1#64 = some 4294967295#64 := by decide
  have e4 : Alu.go 192 true 0 9223372036854775808#64 65#64 = some 13835058055282163712#64 := by decide
  go_enter Try.func12, Try.ntmps12
  go_wp2_with (first | (go_at_call 10; (with_reducible refine (ado_c _ _ _ _ _ _).mono ?_); rintro e w1 ⟨rfl, rfl⟩))
  go_ret
  exact ⟨rfl, rfl⟩

theorem aluLow_walk (op : Int) (hop : 0 ≤ op ∧ op ≤ 255) (off : Int) (hoff : -32768 ≤ off ∧ off ≤ 32767) (a b c : BitVec 64) (w : World) : Calls Try.prog 4 #[.int .u8 op, .int .i16 off, .int .u64 (N a), .int .u64 (N b), .int .u64 (N c)] w fun e w' => e = .returned (.bool true) ∧ Below w.heap.size w w' := by
  clear hop hoff
  have e1 := Alu.go_low op off a b c
  have e2 := Alu.val_low op off a b
  go_enter Try.func4, Try.ntmps4
  go_wp2_with (first | (go_at_call 10; (with_reducible refine (ado_c _ _ _ _ _ _).mono ?_); rintro e w1 ⟨rfl, rfl⟩) | (go_at_call 12; (with_reducible refine (ashown_c _).mono ?_); rintro e w1 ⟨rfl, rfl⟩))
  go_ret
  exact ⟨rfl, (by repeat' (first | (with_reducible exact Below.refl _ _) | (with_reducible assumption) | (with_reducible refine Below.alloc ?_ ?_ _) | (with_reducible refine Below.setCell ?_ ?_ _) | (with_reducible refine Below.drew ?_) | (with_reducible refine below_dn ?_ _) | (with_reducible refine Below.trans ?_ (Below.mono (by assumption) ?_)) | go_size))⟩

theorem aluParts_walk (wd sg : Bool) (a b : BitVec 64) (w : World) : Calls Try.prog 5 #[.bool (wd), .bool (sg), .int .u64 (N a), .int .u64 (N b)] w fun e w' => e = .returned (.bool true) ∧ Below w.heap.size w w' := by
  obtain ⟨q, r, m, s, e1, e2, e3, e4, e5⟩ := Alu.parts wd sg a b
  cases wd <;> cases sg
  all_goals
    simp only [Bool.false_eq_true, if_false, if_true] at e1 e2
    go_enter Try.func5, Try.ntmps5
    go_wp2_with (first | (go_at_call 10; (with_reducible refine (ado_c _ _ _ _ _ _).mono ?_); rintro e w1 ⟨rfl, rfl⟩) | (go_at_call 12; (with_reducible refine (ashown_c _).mono ?_); rintro e w1 ⟨rfl, rfl⟩))
    go_ret
    exact ⟨rfl, (by repeat' (first | (with_reducible exact Below.refl _ _) | (with_reducible assumption) | (with_reducible refine Below.alloc ?_ ?_ _) | (with_reducible refine Below.setCell ?_ ?_ _) | (with_reducible refine Below.drew ?_) | (with_reducible refine below_dn ?_ _) | (with_reducible refine Below.trans ?_ (Below.mono (by assumption) ?_)) | go_size))⟩

end Hk
