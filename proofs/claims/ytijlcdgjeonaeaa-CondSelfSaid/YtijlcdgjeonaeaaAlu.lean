/- Plain laws of arithmetic; no program in sight. No condition but those in each statement. -/
namespace Hk
namespace Alu
/-- what arithmetic of w bits makes; none: it is none -/
def gen (w : Nat) (op off : Int) (x y : BitVec w) : Option (BitVec w) :=
  if op = 176 then (if off = 8 then some ((y.setWidth 8).signExtend w) else if off = 16 then some ((y.setWidth 16).signExtend w) else if off = 32 ∧ w = 64 then some ((y.setWidth 32).signExtend w) else if off = 0 then some y else none)
  else if op = 48 then (if off = 0 then some (x / y) else if off = 1 then some (x.sdiv y) else none)
  else if op = 144 then (if off = 0 then some (x % y) else if off = 1 then some (x.srem y) else none)
  else if off = 0 then
    if op = 0 then some (x + y)
    else if op = 16 then some (x - y)
    else if op = 32 then some (x * y)
    else if op = 64 then some (x ||| y)
    else if op = 80 then some (x &&& y)
    else if op = 160 then some (x ^^^ y)
    else if op = 128 then some (-x)
    else if op = 96 then some (x <<< (y.toNat % w))
    else if op = 112 then some (x >>> (y.toNat % w))
    else if op = 192 then some (x.sshiftRight (y.toNat % w))
    else none
  else none
def go (op : Int) (wide : Bool) (off : Int) (a b : BitVec 64) : Option (BitVec 64) :=
  if wide then gen 64 op off a b else (gen 32 op off (a.setWidth 32) (b.setWidth 32)).map (BitVec.setWidth 64)

theorem sdiv_srem (w : Nat) (x y : BitVec w) : x.sdiv y * y + x.srem y = x := by
  have h : ∀ p q : BitVec w, p / q * q + p % q = p := by
    intro p q
    apply BitVec.eq_of_toNat_eq
    simp only [BitVec.toNat_add, BitVec.toNat_mul, BitVec.toNat_udiv, BitVec.toNat_umod]
    rw [Nat.mul_comm (p.toNat / q.toNat), Nat.mod_add_mod, Nat.div_add_mod, Nat.mod_eq_of_lt p.isLt]
  rw [BitVec.sdiv_eq, BitVec.srem_eq]
  cases hx : x.msb <;> cases hy : y.msb
  · exact h x y
  · have := h x (-y)
    simp only [BitVec.neg_mul]
    rw [BitVec.mul_neg] at this
    exact this
  · have := congrArg (fun z => -z) (h (-x) y)
    simp only [BitVec.neg_add, BitVec.neg_neg] at this
    simp only [BitVec.neg_mul]
    rw [← BitVec.sub_eq_add_neg]
    exact this
  · have := congrArg (fun z => -z) (h (-x) (-y))
    simp only [BitVec.neg_add, BitVec.neg_neg, BitVec.mul_neg] at this
    rw [← BitVec.sub_eq_add_neg]
    exact this
end Alu
end Hk
