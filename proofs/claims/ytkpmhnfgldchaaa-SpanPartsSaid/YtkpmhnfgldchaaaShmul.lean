/- The library's Mul64, by the shelf's contract: it returns the product's halves. No condition. -/
import Derived.Shelf.Bits.Mul64
import Derived.Test.YtkpmhnfgldchaaaProg
import Derived.Test.YtkpmhnfgldchaaaSpDo
namespace Hk
open Go Go.Shelf Go.Proofs
def mul_ren : Go.Shelf.Ren := ⟨fun | 264 => 32 | n => n, fun | 53 => 22 | 46 => 58 | n => n, fun | n => n⟩
theorem mul_lays : Go.Proofs.Lays.n264 Try.prog mul_ren := {
  mixed := by kernel_rfl
  f264 := Try.func32.trans (congrArg some (by kernel_rfl))
  t46 := Try.underlying58
  a46 := Try.isAgg58
  z46 := Try.sizeOf58
  v46 := Try.zeroValue58
  t53 := Try.underlying22
  a53 := Try.isAgg22
  z53 := Try.sizeOf22
  v53 := Try.zeroValue22 }
theorem mul64_c (x y : BitVec 64) (w : World) : Calls Try.prog 32 #[.int .u64 (N x), .int .u64 (N y)] w fun e w' => e = .returned (.tuple #[.int .u64 (N (Sp.mulHi x y)), .int .u64 (N (x * y))]) ∧ w = w' := by
  have h := Any.bits_Mul64 mul_lays x.toNat y.toNat x.isLt y.isLt w
  refine h.mono fun e w' ⟨h1, h2⟩ => ⟨?_, h2.symm⟩
  rw [h1, ← Sp.mulHi_nat, ← Sp.mul_nat]
  rfl
end Hk
