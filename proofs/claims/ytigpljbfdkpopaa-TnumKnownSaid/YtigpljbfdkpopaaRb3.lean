/- The reference of arithmetic, wide, of the kinds of which tnums tell. No condition but that. -/
import Derived.Test.YtigpljbfdkpopaaProg
import Derived.Test.YtigpljbfdkpopaaWd
import Derived.Test.YtigpljbfdkpopaaAluRef
import Derived.Test.YtigpljbfdkpopaaTnLaw
import Derived.Test.YtigpljbfdkpopaaRb2
namespace Hk
open Go Go.RowKit Go.Proofs
set_option linter.unusedSimpArgs false
set_option linter.unusedVariables false
set_option maxRecDepth 100000
theorem rdo_told (op : Int) (h : Tn.Told op) (a b : BitVec 64) (w : World) : Calls Try.prog 14 #[.int .u8 op, .bool true, .int .i16 0, .int .u64 (N a), .int .u64 (N b)] w fun e w' => e = .returned (.tuple #[.int .u64 (N (Alu.val (Alu.go op true 0 a b))), .int .i64 (Alu.err (Alu.go op true 0 a b))]) ∧ w = w' := by
  rcases h with rfl | rfl | rfl | rfl | rfl | rfl | rfl | rfl
  · exact rdo_w_add a b w
  · exact rdo_w_sub a b w
  · exact rdo_w_mul a b w
  · exact rdo_w_and a b w
  · exact rdo_w_or a b w
  · exact rdo_w_xor a b w
  · exact rdo_w_lsh a b w
  · exact rdo_w_rsh a b w

end Hk
