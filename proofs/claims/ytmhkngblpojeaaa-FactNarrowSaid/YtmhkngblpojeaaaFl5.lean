/- The statement FactNarrow of the Go text: it returns true, and old memory is as it was. No condition but a byte's and a 16-bit number's bounds. -/
import Derived.Test.YtmhkngblpojeaaaProg
import Derived.Test.YtmhkngblpojeaaaGp
import Derived.Test.YtmhkngblpojeaaaGf
import Derived.Test.YtmhkngblpojeaaaFl1
import Derived.Test.YtmhkngblpojeaaaRc5
import Derived.Test.YtmhkngblpojeaaaGl
import Derived.Deep.RegionHeld3
import Derived.Deep.DeepCutAuto
import Derived.Test.YtmhkngblpojeaaaFl5b
import Derived.Test.YtmhkngblpojeaaaFl5c
namespace Hk
open Go Go.RowKit Go.Proofs
set_option linter.unusedSimpArgs false
set_option linter.unusedVariables false
set_option maxRecDepth 100000
attribute [go_sem] Tn.eta Alu.val_some Alu.err_some Alu.val_none Alu.err_none
theorem factNarrow_walk (op : Int) (_ : 0 ≤ op ∧ op ≤ 255) (off : Int) (_ : -32768 ≤ off ∧ off ≤ 32767) (wd : Bool) (n0 n1 n2 n3 n4 n5 n6 n7 : BitVec 64) (w : World) : Calls Try.prog 4 #[.int .u8 op, .int .i16 off, .bool wd, .agg #[.int .u64 (N n0), .int .u64 (N n1), .int .u64 (N n2), .int .u64 (N n3), .int .u64 (N n4), .int .u64 (N n5), .int .u64 (N n6), .int .u64 (N n7)]] w fun e w' => e = .returned (.bool true) ∧ Below w.heap.size w w' := by
  rcases hz : Alu.go op wd off n0 n4 with _ | z
  · have d2 := Fa.do_none (a := Fa.of n0) (b := Fa.of n4) hz
    rcases d1 : Fa.do_ op false off (Fa.made n0 n1 n2 n3) (Fa.made n4 n5 n6 n7) with _ | f
    · exact factNarrow_nn op off wd n0 n1 n2 n3 n4 n5 n6 n7 _ _ rfl rfl _ rfl (by rw [d1]; rfl) 0#64 _ hz rfl (by rw [d2]; rfl) w
    · obtain ⟨l1, l2⟩ := Fa.do_low d1
      exact factNarrow_yn op off wd n0 n1 n2 n3 n4 n5 n6 n7 _ _ rfl rfl f (by rw [d1]; rfl) (by rw [d1]; rfl) l1 l2 0#64 _ hz rfl (by rw [d2]; rfl) w
  · have d2 := Fa.do_known hz
    rcases d1 : Fa.do_ op false off (Fa.made n0 n1 n2 n3) (Fa.made n4 n5 n6 n7) with _ | f
    · exact factNarrow_ny op off wd n0 n1 n2 n3 n4 n5 n6 n7 _ _ rfl rfl _ rfl (by rw [d1]; rfl) z Fa.zero hz (by rw [d2]; rfl) (by rw [d2]; rfl) w
    · obtain ⟨l1, l2⟩ := Fa.do_low d1
      exact factNarrow_yy op off wd n0 n1 n2 n3 n4 n5 n6 n7 _ _ rfl rfl f (by rw [d1]; rfl) (by rw [d1]; rfl) l1 l2 z Fa.zero hz (by rw [d2]; rfl) (by rw [d2]; rfl) w

end Hk
