/- Package tnum: Do returns what the plain function on tnums says; old memory is as it was. No condition but those in each statement. -/
import Derived.Test.YtigpljbfdkpopaaProg
import Derived.Test.YtigpljbfdkpopaaWd
import Derived.Test.YtigpljbfdkpopaaTnDo
import Derived.Test.YtigpljbfdkpopaaCt4
import Derived.Test.YtigpljbfdkpopaaCt5
namespace Hk
open Go Go.RowKit Go.Proofs
set_option linter.unusedSimpArgs false
set_option linter.unusedVariables false
set_option maxRecDepth 100000
theorem do_c (op : Int) (a b : Tn) (w : World) : Calls Try.prog 10 #[.int .u8 op, .agg #[.int .u64 (N a.v), .int .u64 (N a.m)], .agg #[.int .u64 (N b.v), .int .u64 (N b.m)]] w fun e w' => e = .returned (.tuple #[.agg #[.int .u64 (N ((Tn.do_ op a b).getD ⟨0, 0⟩).v), .int .u64 (N ((Tn.do_ op a b).getD ⟨0, 0⟩).m)], .bool (Tn.do_ op a b).isSome]) ∧ Below w.heap.size w w' := by
  cases ha : a.right
  · exact do_no1 op a b ha w
  cases hb : b.right
  · exact do_no2 op a b ha hb w
  by_cases n0 : op = 0
  · subst n0; exact do_add a b ha hb w
  by_cases n16 : op = 16
  · subst n16; exact do_sub a b ha hb w
  by_cases n32 : op = 32
  · subst n32; exact do_mul a b ha hb w
  by_cases n80 : op = 80
  · subst n80; exact do_and a b ha hb w
  by_cases n64 : op = 64
  · subst n64; exact do_or a b ha hb w
  by_cases n160 : op = 160
  · subst n160; exact do_xor a b ha hb w
  by_cases n96 : op = 96
  · subst n96
    cases hk : (b.m == 0#64)
    · exact do_lsh3 a b ha hb hk w
    cases hl : decide (b.v < 64#64)
    · exact do_lsh2 a b ha hb hk hl w
    exact do_lsh1 a b ha hb hk hl w
  by_cases n112 : op = 112
  · subst n112
    cases hk : (b.m == 0#64)
    · exact do_rsh3 a b ha hb hk w
    cases hl : decide (b.v < 64#64)
    · exact do_rsh2 a b ha hb hk hl w
    exact do_rsh1 a b ha hb hk hl w
  exact do_else op a b ha hb n0 n16 n32 n80 n64 n160 n96 n112 w

end Hk
