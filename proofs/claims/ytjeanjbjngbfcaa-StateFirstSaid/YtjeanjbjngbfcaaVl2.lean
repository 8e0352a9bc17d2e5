/- Packages mem, table, val: At, Area, in; old memory is as it was. No condition but those in each statement. -/
import Derived.Test.YtjeanjbjngbfcaaProg
import Derived.Test.YtjeanjbjngbfcaaGp
import Derived.Test.YtjeanjbjngbfcaaGv
import Derived.Deep.DeepCutAuto
namespace Hk
open Go Go.RowKit Go.Proofs
set_option linter.unusedSimpArgs false
set_option linter.unusedVariables false
set_option maxRecDepth 100000
attribute [go_sem] Tn.eta Sp.eta Fa.eta Vl.eta
@[go_sem] theorem wrap_i64 (x : BitVec 64) : IntKind.i64.wrap (N x) = x.toInt := by
  have h := x.isLt
  rw [BitVec.toInt_eq_toNat_cond]
  show (if (true && decide (N x % 18446744073709551616 ≥ 9223372036854775808)) = true then N x % 18446744073709551616 - 18446744073709551616 else N x % 18446744073709551616) = _
  unfold N
  simp only [Bool.true_and, decide_eq_true_eq]
  have e3 : (2 : Nat) ^ 64 = 18446744073709551616 := by decide
  rw [e3] at h ⊢
  split <;> split <;> omega
attribute [go_sem low] wrap_N
@[go_sem high] theorem N_shr32 (x : BitVec 64) : N x / 4294967296 = N (x >>> 32) := by
  unfold N; rw [BitVec.toNat_ushiftRight, Nat.shiftRight_eq_div_pow]; rfl
@[go_sem high] theorem toNat_shr32 (x : BitVec 64) : ((x.toNat : Int) >>> 32) = N (x >>> 32) := by
  unfold N; rw [BitVec.toNat_ushiftRight]; rfl
@[go_sem] theorem ofInt_back (x : BitVec 64) : BitVec.ofInt 64 x.toInt = x := BitVec.ofInt_toInt

end Hk
