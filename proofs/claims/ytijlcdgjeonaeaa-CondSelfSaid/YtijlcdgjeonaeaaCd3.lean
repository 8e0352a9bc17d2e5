/- The statement CondIs of the Go text: it returns true, and old memory is as it was. No condition. -/
import Derived.Test.YtijlcdgjeonaeaaProg
import Derived.Test.YtijlcdgjeonaeaaWd
import Derived.Test.YtijlcdgjeonaeaaCondDo
import Derived.Test.YtijlcdgjeonaeaaCd1
import Derived.Test.YtijlcdgjeonaeaaCd1n
import Derived.Test.YtijlcdgjeonaeaaCd2
namespace Hk
open Go Go.RowKit Go.Proofs
set_option linter.unusedSimpArgs false
set_option linter.unusedVariables false
set_option maxRecDepth 100000
attribute [go_sem] Cond.val_some Cond.err_some Cond.val_none Cond.err_none
theorem cshown_c  (w : World) : Calls Try.prog 11 #[] w fun e w' => e = .returned (.bool true) ∧ w = w' := by
  have e1 : Cond.is 32 true 9223372036854775808#64 1#64 = some true := by decide
  have e2 : Cond.is 96 true 9223372036854775808#64 1#64 = some false := by decide
  have e3 : Cond.neg 32 = some 176 := by decide
  go_enter Try.func11, Try.ntmps11
  go_wp2_with (first | (go_at_call 9; (with_reducible refine (cis_c _ _ _ _ _).mono ?_); rintro e w1 ⟨rfl, rfl⟩) | (go_at_call 12; (with_reducible refine (cnot_c _ _).mono ?_); rintro e w1 ⟨rfl, rfl⟩))
  go_ret
  exact ⟨rfl, rfl⟩

theorem condIs_walk (op : Int) (hop : 0 ≤ op ∧ op ≤ 255) (wd : Bool) (a b : BitVec 64) (w : World) : Calls Try.prog 3 #[.int .u8 op, .bool (wd), .int .u64 (N a), .int .u64 (N b)] w fun e w' => e = .returned (.bool true) ∧ Below w.heap.size w w' := by
  clear hop
  go_enter Try.func3, Try.ntmps3
  go_wp2_with (first | (go_at_call 9; (with_reducible refine (cis_c _ _ _ _ _).mono ?_); rintro e w1 ⟨rfl, rfl⟩) | (go_at_call 10; (with_reducible refine (ris_c _ _ _ _ _).mono ?_); rintro e w1 ⟨rfl, rfl⟩) | (go_at_call 12; (with_reducible refine (cnot_c _ _).mono ?_); rintro e w1 ⟨rfl, rfl⟩) | (go_at_call 14; (with_reducible refine (cturned_c _ _).mono ?_); rintro e w1 ⟨rfl, rfl⟩) | (go_at_call 11; (with_reducible refine (cshown_c _).mono ?_); rintro e w1 ⟨rfl, rfl⟩))
  go_ret
  exact ⟨rfl, (by repeat' (first | (with_reducible exact Below.refl _ _) | (with_reducible assumption) | (with_reducible refine Below.alloc ?_ ?_ _) | (with_reducible refine Below.setCell ?_ ?_ _) | (with_reducible refine Below.drew ?_) | (with_reducible refine below_dn ?_ _) | (with_reducible refine Below.trans ?_ (Below.mono (by assumption) ?_)) | go_size))⟩


end Hk
