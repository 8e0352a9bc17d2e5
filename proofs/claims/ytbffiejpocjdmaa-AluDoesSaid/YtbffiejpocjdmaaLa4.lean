/- The statement AluDoes of the Go text: it returns true, and old memory is as it was. No condition. -/
import Derived.Test.YtbffiejpocjdmaaProg
import Derived.Test.YtbffiejpocjdmaaWd
import Derived.Test.YtbffiejpocjdmaaLa1
import Derived.Test.YtbffiejpocjdmaaRc5
namespace Hk
open Go Go.RowKit Go.Proofs
set_option linter.unusedSimpArgs false
set_option linter.unusedVariables false
set_option maxRecDepth 100000
theorem aluDoes_walk (op : Int) (hop : 0 ≤ op ∧ op ≤ 255) (wd : Bool) (off : Int) (hoff : -32768 ≤ off ∧ off ≤ 32767) (a b : BitVec 64) (w : World) : Calls Try.prog 3 #[.int .u8 op, .bool (wd), .int .i16 off, .int .u64 (N a), .int .u64 (N b)] w fun e w' => e = .returned (.bool true) ∧ Below w.heap.size w w' := by
  clear hop hoff
  go_enter Try.func3, Try.ntmps3
  go_wp2_with (first | (go_at_call 10; (with_reducible refine (ado_c _ _ _ _ _ _).mono ?_); rintro e w1 ⟨rfl, rfl⟩) | (go_at_call 12; (with_reducible refine (ashown_c _).mono ?_); rintro e w1 ⟨rfl, rfl⟩) | (go_at_call 11; (with_reducible refine (rdo_c _ _ _ _ _ _).mono ?_); rintro e w1 ⟨rfl, hb1⟩; obtain ⟨hc1, hf1, hz1⟩ := bcell hb1))
  go_ret
  exact ⟨rfl, (by repeat' (first | (with_reducible exact Below.refl _ _) | (with_reducible assumption) | (with_reducible refine Below.alloc ?_ ?_ _) | (with_reducible refine Below.setCell ?_ ?_ _) | (with_reducible refine Below.drew ?_) | (with_reducible refine Below.trans ?_ (Below.mono (by assumption) ?_)) | go_size))⟩

end Hk
