/- Plain laws of conditions and spans; no program in sight. No condition but those in each statement. -/
import Derived.Test.YtijlcdgjeonaeaaAlu
namespace Hk
namespace Cond
/-- whether a condition holds of two numbers of w bits; none: it is none -/
def gen (w : Nat) (op : Int) (x y : BitVec w) : Option Bool :=
  if op = 0 then some true
  else if op = 16 then some (x == y)
  else if op = 32 then some (decide (y < x))
  else if op = 48 then some (decide (y ≤ x))
  else if op = 64 then some (x &&& y != 0#w)
  else if op = 80 then some (x != y)
  else if op = 96 then some (y.slt x)
  else if op = 112 then some (y.sle x)
  else if op = 160 then some (decide (x < y))
  else if op = 176 then some (decide (x ≤ y))
  else if op = 192 then some (x.slt y)
  else if op = 208 then some (x.sle y)
  else none
def is (op : Int) (wide : Bool) (a b : BitVec 64) : Option Bool :=
  if wide then gen 64 op a b else gen 32 op (a.setWidth 32) (b.setWidth 32)
def neg (op : Int) : Option Int :=
  if op = 16 then some 80 else if op = 80 then some 16 else if op = 32 then some 176 else if op = 176 then some 32
  else if op = 48 then some 160 else if op = 160 then some 48 else if op = 96 then some 208 else if op = 208 then some 96
  else if op = 112 then some 192 else if op = 192 then some 112 else none
def turned (op : Int) : Option Int :=
  if op = 16 then some 16 else if op = 80 then some 80 else if op = 64 then some 64 else if op = 32 then some 160 else if op = 160 then some 32
  else if op = 48 then some 176 else if op = 176 then some 48 else if op = 96 then some 192 else if op = 192 then some 96
  else if op = 112 then some 208 else if op = 208 then some 112 else none

theorem slt_not (w : Nat) (x y : BitVec w) : x.slt y = !y.sle x := by
  rw [Bool.eq_iff_iff]; simp [BitVec.slt, BitVec.sle]
theorem gen_neg (w : Nat) (op n : Int) (h : neg op = some n) (x y : BitVec w) : ∃ p, gen w op x y = some p ∧ gen w n x y = some (!p) := by
  unfold neg at h
  by_cases h1 : op = 16
  · subst h1; simp at h; subst h; exact ⟨_, rfl, by simp [gen, bne]⟩
  by_cases h2 : op = 80
  · subst h2; simp at h; subst h; exact ⟨_, rfl, by simp [gen, bne]⟩
  by_cases h3 : op = 32
  · subst h3; simp at h; subst h; exact ⟨_, rfl, by simp [gen, ← BitVec.not_lt]⟩
  by_cases h4 : op = 176
  · subst h4; simp at h; subst h; exact ⟨_, rfl, by simp [gen, ← BitVec.not_lt]⟩
  by_cases h5 : op = 48
  · subst h5; simp at h; subst h; exact ⟨_, rfl, by simp [gen, ← BitVec.not_lt]⟩
  by_cases h6 : op = 160
  · subst h6; simp at h; subst h; exact ⟨_, rfl, by simp [gen, ← BitVec.not_lt]⟩
  by_cases h7 : op = 96
  · subst h7; simp at h; subst h; exact ⟨_, rfl, by simp [gen, slt_not]⟩
  by_cases h8 : op = 208
  · subst h8; simp at h; subst h; exact ⟨_, rfl, by simp [gen, slt_not]⟩
  by_cases h9 : op = 112
  · subst h9; simp at h; subst h; exact ⟨_, rfl, by simp [gen, slt_not]⟩
  by_cases h10 : op = 192
  · subst h10; simp at h; subst h; exact ⟨_, rfl, by simp [gen, slt_not]⟩
  simp [*] at h
theorem gen_turned (w : Nat) (op n : Int) (h : turned op = some n) (x y : BitVec w) : gen w op x y = gen w n y x := by
  unfold turned at h
  by_cases h1 : op = 16
  · subst h1; simp at h; subst h; simp only [gen]; simp; rw [Bool.eq_iff_iff, beq_iff_eq, beq_iff_eq]; exact eq_comm
  by_cases h2 : op = 80
  · subst h2; simp at h; subst h; simp only [gen]; simp [bne]; rw [Bool.eq_iff_iff, beq_iff_eq, beq_iff_eq]; exact eq_comm
  by_cases h2 : op = 64
  · subst h2; simp at h; subst h; simp [gen, BitVec.and_comm]
  by_cases h3 : op = 32
  · subst h3; simp at h; subst h; rfl
  by_cases h4 : op = 160
  · subst h4; simp at h; subst h; rfl
  by_cases h5 : op = 48
  · subst h5; simp at h; subst h; rfl
  by_cases h6 : op = 176
  · subst h6; simp at h; subst h; rfl
  by_cases h7 : op = 96
  · subst h7; simp at h; subst h; rfl
  by_cases h8 : op = 192
  · subst h8; simp at h; subst h; rfl
  by_cases h9 : op = 112
  · subst h9; simp at h; subst h; rfl
  by_cases h10 : op = 208
  · subst h10; simp at h; subst h; rfl
  simp [*] at h
end Cond

structure Sp where
  lo : BitVec 64
  hi : BitVec 64
deriving DecidableEq
namespace Sp
def right (s : Sp) : Bool := decide (s.lo ≤ s.hi)
def has (s : Sp) (n : BitVec 64) : Bool := decide (s.lo ≤ n) && decide (n ≤ s.hi)
def within (a b : Sp) : Bool := a.right && b.right && b.has a.lo && b.has a.hi
def mn (a b : BitVec 64) : BitVec 64 := if a ≤ b then a else b
def mx (a b : BitVec 64) : BitVec 64 := if a ≤ b then b else a
def join (a b : Sp) : Sp := if a.right && b.right then ⟨mn a.lo b.lo, mx a.hi b.hi⟩ else ⟨0, 0⟩
def both (a b : Sp) : Sp := ⟨mx a.lo b.lo, mn a.hi b.hi⟩
def meetOk (a b : Sp) : Bool := a.right && b.right && (both a b).right
def meet (a b : Sp) : Sp := if meetOk a b then both a b else ⟨0, 0⟩
def all : Sp := ⟨0, 18446744073709551615#64⟩
def do_ (op : Int) (a b : Sp) : Sp :=
  if a.right && b.right then
    if op = 0 then (if a.hi.toNat + b.hi.toNat < 18446744073709551616 then ⟨a.lo + b.lo, a.hi + b.hi⟩ else all)
    else if op = 32 then (if a.hi.toNat * b.hi.toNat < 18446744073709551616 then ⟨a.lo * b.lo, a.hi * b.hi⟩ else all)
    else if op = 16 then (if b.hi ≤ a.lo then ⟨a.lo - b.hi, a.hi - b.lo⟩ else all)
    else if op = 80 then ⟨0, mn a.hi b.hi⟩
    else if op = 48 then (if 0#64 < b.lo then ⟨a.lo / b.hi, a.hi / b.lo⟩ else all)
    else if op = 144 then (if 0#64 < b.lo then ⟨0, mn a.hi (b.hi - 1#64)⟩ else all)
    else if op = 112 then (if b.hi < 64#64 then ⟨a.lo >>> b.hi.toNat, a.hi >>> b.lo.toNat⟩ else all)
    else all
  else ⟨0, 0⟩
/-- a span without a number at its end; none: nothing is left -/
def without (a : Sp) (n : BitVec 64) : Option Sp :=
  if a.lo = n ∧ a.hi = n then none else if a.lo = n then some ⟨a.lo + 1#64, a.hi⟩ else if a.hi = n then some ⟨a.lo, a.hi - 1#64⟩ else some a
def meet? (a b : Sp) : Option Sp := if meetOk a b then some (both a b) else none
/-- what the first may be, if a condition holds of numbers of both; none: it can't -/
def if_ (op : Int) (a b : Sp) : Option Sp :=
  if a.right && b.right then
    if op = 16 then meet? a b
    else if op = 32 then (if b.lo = 18446744073709551615#64 then none else meet? a ⟨b.lo + 1#64, 18446744073709551615#64⟩)
    else if op = 48 then meet? a ⟨b.lo, 18446744073709551615#64⟩
    else if op = 160 then (if b.hi = 0#64 then none else meet? a ⟨0, b.hi - 1#64⟩)
    else if op = 176 then meet? a ⟨0, b.hi⟩
    else if op = 80 then (if b.lo = b.hi then without a b.lo else some a)
    else if op = 64 then (if a.hi = 0#64 ∨ b.hi = 0#64 then none else some a)
    else some a
  else none

theorem right_iff (s : Sp) : s.right = true ↔ s.lo.toNat ≤ s.hi.toNat := by unfold right; rw [decide_eq_true_iff]; exact BitVec.le_def
theorem has_iff (s : Sp) (n : BitVec 64) : s.has n = true ↔ s.lo.toNat ≤ n.toNat ∧ n.toNat ≤ s.hi.toNat := by
  unfold has; rw [Bool.and_eq_true, decide_eq_true_iff, decide_eq_true_iff]; exact Iff.rfl
theorem within_iff (a b : Sp) : a.within b = true ↔ a.lo.toNat ≤ a.hi.toNat ∧ b.lo.toNat ≤ a.lo.toNat ∧ a.hi.toNat ≤ b.hi.toNat := by
  unfold within; simp only [Bool.and_eq_true, right_iff, has_iff]; omega
theorem mn_nat (a b : BitVec 64) : (mn a b).toNat = min a.toNat b.toNat := by
  unfold mn; split <;> rename_i h <;> rw [BitVec.le_def] at h <;> omega
theorem mx_nat (a b : BitVec 64) : (mx a b).toNat = max a.toNat b.toNat := by
  unfold mx; split <;> rename_i h <;> rw [BitVec.le_def] at h <;> omega
theorem all_lo : all.lo.toNat = 0 := rfl
theorem all_hi : all.hi.toNat = 18446744073709551615 := rfl
theorem has_all (n : BitVec 64) : all.has n = true := by rw [has_iff, all_lo, all_hi]; have := n.isLt; omega
theorem right_of_has {s : Sp} {n : BitVec 64} (h : s.has n = true) : s.right = true := by rw [has_iff] at h; rw [right_iff]; omega
theorem join_lo {a b : Sp} (ha : a.right = true) (hb : b.right = true) : (join a b).lo.toNat = min a.lo.toNat b.lo.toNat := by
  unfold join; rw [ha, hb]; exact mn_nat _ _
theorem join_hi {a b : Sp} (ha : a.right = true) (hb : b.right = true) : (join a b).hi.toNat = max a.hi.toNat b.hi.toNat := by
  unfold join; rw [ha, hb]; exact mx_nat _ _
theorem meetOk_iff (a b : Sp) : meetOk a b = true ↔ a.lo.toNat ≤ a.hi.toNat ∧ b.lo.toNat ≤ b.hi.toNat ∧ max a.lo.toNat b.lo.toNat ≤ min a.hi.toNat b.hi.toNat := by
  unfold meetOk; simp only [Bool.and_eq_true, right_iff, both, mx_nat, mn_nat, and_assoc]
theorem meet_has (a b : Sp) (o : BitVec 64) (ha : a.right = true) (hb : b.right = true) : (meetOk a b && (meet a b).has o) = (a.has o && b.has o) := by
  rw [right_iff] at ha hb
  rw [Bool.eq_iff_iff, Bool.and_eq_true, Bool.and_eq_true, has_iff a, has_iff b]
  constructor
  · rintro ⟨h, h'⟩
    unfold meet at h'; rw [if_pos h, has_iff] at h'
    simp only [both, mx_nat, mn_nat] at h'
    omega
  · rintro ⟨h, h'⟩
    have ok : meetOk a b = true := by rw [meetOk_iff]; omega
    refine ⟨ok, ?_⟩
    unfold meet; rw [if_pos ok, has_iff]
    simp only [both, mx_nat, mn_nat]
    omega
theorem meet?_has {a b : Sp} {o : BitVec 64} (h1 : a.has o = true) (h2 : b.has o = true) : ∃ u, meet? a b = some u ∧ u.has o = true := by
  have := meet_has a b o (right_of_has h1) (right_of_has h2)
  rw [h1, h2] at this
  simp only [Bool.and_self, Bool.and_eq_true] at this
  obtain ⟨ok, h⟩ := this
  unfold meet at h; rw [if_pos ok] at h
  exact ⟨_, by unfold meet?; rw [if_pos ok], h⟩
theorem meet?_within {a b u : Sp} (h : meet? a b = some u) : u.within a = true := by
  unfold meet? at h
  split at h
  · rename_i ok
    rw [meetOk_iff] at ok
    simp only [Option.some.injEq] at h
    subst h
    rw [within_iff]
    simp only [both, mx_nat, mn_nat]
    omega
  · cases h

theorem do_sound (op : Int) (a b : Sp) (x y z : BitVec 64) (hx : a.has x = true) (hy : b.has y = true) (hz : Alu.go op true 0 x y = some z) : (do_ op a b).has z = true := by
  have ra := right_of_has hx
  have rb := right_of_has hy
  rw [has_iff] at hx hy
  have l1 := a.hi.isLt
  have l2 := b.hi.isLt
  unfold do_
  rw [ra, rb]
  simp only [Bool.and_self, if_true]
  unfold Alu.go Alu.gen at hz
  simp only [if_true] at hz
  by_cases h1 : op = 0
  · subst h1
    simp at hz
    subst hz
    simp only [if_true]
    split
    · rename_i h
      rw [has_iff]
      simp only [BitVec.toNat_add]
      rw [Nat.mod_eq_of_lt (by omega), Nat.mod_eq_of_lt (by omega), Nat.mod_eq_of_lt (by omega)]
      omega
    · exact has_all _
  rw [if_neg h1]
  by_cases h2 : op = 32
  · subst h2
    simp at hz
    subst hz
    simp only [if_true]
    split
    · rename_i h
      rw [has_iff]
      simp only [BitVec.toNat_mul]
      have m1 : x.toNat * y.toNat ≤ a.hi.toNat * b.hi.toNat := Nat.mul_le_mul hx.2 hy.2
      have m2 : a.lo.toNat * b.lo.toNat ≤ x.toNat * y.toNat := Nat.mul_le_mul hx.1 hy.1
      rw [Nat.mod_eq_of_lt (by omega), Nat.mod_eq_of_lt (by omega), Nat.mod_eq_of_lt (by omega)]
      exact ⟨m2, m1⟩
    · exact has_all _
  rw [if_neg h2]
  by_cases h3 : op = 16
  · subst h3
    simp at hz
    subst hz
    simp only [if_true]
    split
    · rename_i h
      rw [BitVec.le_def] at h
      rw [has_iff]
      rw [BitVec.toNat_sub_of_le (by rw [BitVec.le_def]; omega), BitVec.toNat_sub_of_le (by rw [BitVec.le_def]; omega), BitVec.toNat_sub_of_le (by rw [BitVec.le_def]; omega)]
      omega
    · exact has_all _
  rw [if_neg h3]
  by_cases h4 : op = 80
  · subst h4
    simp at hz
    subst hz
    simp only [if_true]
    rw [has_iff]
    simp only [mn_nat, BitVec.toNat_and]
    have m1 : x.toNat &&& y.toNat ≤ x.toNat := Nat.and_le_left
    have m2 : x.toNat &&& y.toNat ≤ y.toNat := Nat.and_le_right
    refine ⟨Nat.zero_le _, ?_⟩
    omega
  rw [if_neg h4]
  by_cases h5 : op = 48
  · subst h5
    simp at hz
    subst hz
    simp only [if_true]
    split
    · rename_i h
      rw [BitVec.lt_def] at h
      have h : 0 < b.lo.toNat := h
      rw [has_iff]
      simp only [BitVec.toNat_udiv]
      constructor
      · exact Nat.le_trans (Nat.div_le_div_right hx.1) (Nat.div_le_div_left hy.2 (by omega))
      · exact Nat.le_trans (Nat.div_le_div_right hx.2) (Nat.div_le_div_left hy.1 (by omega))
    · exact has_all _
  rw [if_neg h5]
  by_cases h6 : op = 144
  · subst h6
    simp at hz
    subst hz
    simp only [if_true]
    split
    · rename_i h
      rw [BitVec.lt_def] at h
      have h : 0 < b.lo.toNat := h
      rw [has_iff]
      have e : (b.hi - 1#64).toNat = b.hi.toNat - 1 := by
        rw [BitVec.toNat_sub_of_le (by rw [BitVec.le_def]; show 1 ≤ _; omega)]; rfl
      simp only [mn_nat, BitVec.toNat_umod, e]
      have m1 := Nat.mod_le x.toNat y.toNat
      have m2 := Nat.mod_lt x.toNat (show y.toNat > 0 by omega)
      refine ⟨Nat.zero_le _, ?_⟩
      omega
    · exact has_all _
  rw [if_neg h6]
  by_cases h7 : op = 112
  · subst h7
    simp at hz
    subst hz
    simp only [if_true]
    split
    · rename_i h
      rw [BitVec.lt_def] at h
      have h : b.hi.toNat < 64 := h
      rw [has_iff]
      simp only [BitVec.toNat_ushiftRight, Nat.shiftRight_eq_div_pow]
      rw [Nat.mod_eq_of_lt (by omega)]
      have p : ∀ k : Nat, 0 < 2 ^ k := fun k => Nat.two_pow_pos k
      constructor
      · exact Nat.le_trans (Nat.div_le_div_right hx.1) (Nat.div_le_div_left (Nat.pow_le_pow_right (by omega) hy.2) (p _))
      · exact Nat.le_trans (Nat.div_le_div_right hx.2) (Nat.div_le_div_left (Nat.pow_le_pow_right (by omega) hy.1) (p _))
    · exact has_all _
  rw [if_neg h7]
  exact has_all _

theorem without_within {a u : Sp} {n : BitVec 64} (ha : a.right = true) (h : without a n = some u) : u.within a = true := by
  rw [right_iff] at ha
  have l1 := a.hi.isLt
  unfold without at h
  split at h
  · cases h
  rename_i h0
  rw [within_iff]
  split at h
  · rename_i h1
    have ne : a.lo ≠ a.hi := fun e => h0 ⟨h1, by rw [← e]; exact h1⟩
    have ne' : a.lo.toNat ≠ a.hi.toNat := fun e => ne (BitVec.eq_of_toNat_eq e)
    simp only [Option.some.injEq] at h
    subst h
    simp only [BitVec.toNat_add, BitVec.toNat_ofNat]
    omega
  · split at h
    · rename_i h1 h2
      have ne : a.lo ≠ a.hi := fun e => h1 (by rw [e]; exact h2)
      have ne' : a.lo.toNat ≠ a.hi.toNat := fun e => ne (BitVec.eq_of_toNat_eq e)
      simp only [Option.some.injEq] at h
      subst h
      rw [BitVec.toNat_sub_of_le (by rw [BitVec.le_def]; show 1 ≤ _; omega)]
      simp only [BitVec.toNat_ofNat]
      omega
    · simp only [Option.some.injEq] at h
      subst h
      omega
theorem without_has {a : Sp} {n o : BitVec 64} (ho : a.has o = true) (hn : o ≠ n) : ∃ u, without a n = some u ∧ u.has o = true := by
  have hn' : o.toNat ≠ n.toNat := fun e => hn (BitVec.eq_of_toNat_eq e)
  have l1 := a.hi.isLt
  rw [has_iff] at ho
  unfold without
  rw [if_neg (by rintro ⟨h1, h2⟩; rw [h1, h2] at ho; omega)]
  split
  · rename_i h1
    refine ⟨_, rfl, ?_⟩
    rw [has_iff]
    rw [h1] at ho ⊢
    simp only [BitVec.toNat_add, BitVec.toNat_ofNat]
    omega
  · split
    · rename_i h1 h2
      refine ⟨_, rfl, ?_⟩
      rw [has_iff]
      rw [h2] at ho ⊢
      rw [BitVec.toNat_sub_of_le (by rw [BitVec.le_def]; show 1 ≤ _; omega)]
      simp only [BitVec.toNat_ofNat]
      omega
    · exact ⟨_, rfl, by rw [has_iff]; exact ho⟩

theorem if_within {op : Int} {a b u : Sp} (h : if_ op a b = some u) : u.within a = true := by
  unfold if_ at h
  split at h
  · rename_i hr
    rw [Bool.and_eq_true] at hr
    have self : a.within a = true := by rw [within_iff]; have := (right_iff a).1 hr.1; omega
    repeat' split at h
    all_goals first
      | exact meet?_within h
      | (cases h; done)
      | exact without_within hr.1 h
      | (simp only [Option.some.injEq] at h; subst h; exact self)
  · cases h
theorem if_sound {op : Int} {a b : Sp} {x y : BitVec 64} (hx : a.has x = true) (hy : b.has y = true) (hc : Cond.is op true x y = some true) :
    ∃ u, if_ op a b = some u ∧ u.has x = true := by
  have ra := right_of_has hx
  have rb := right_of_has hy
  have hx' := (has_iff _ _).1 hx
  have hy' := (has_iff _ _).1 hy
  have lx := x.isLt
  have ly := y.isLt
  have l1 := a.hi.isLt
  have l2 := b.hi.isLt
  unfold if_
  rw [ra, rb]
  simp only [Bool.and_self, if_true]
  unfold Cond.is Cond.gen at hc
  simp only [if_true] at hc
  by_cases h1 : op = 16
  · subst h1
    simp at hc
    subst hc
    simp only [if_true]
    exact meet?_has hx hy
  rw [if_neg h1]
  by_cases h2 : op = 32
  · subst h2
    simp at hc
    rw [BitVec.lt_def] at hc
    simp only [if_true]
    split
    · rename_i h; rw [h] at hy'; have : (18446744073709551615#64).toNat = 18446744073709551615 := rfl; omega
    · rename_i h
      have h' : b.lo.toNat ≠ 18446744073709551615 := fun e => h (BitVec.eq_of_toNat_eq e)
      refine meet?_has hx ?_
      rw [has_iff]
      simp only [BitVec.toNat_add, BitVec.toNat_ofNat]
      omega
  rw [if_neg h2]
  by_cases h3 : op = 48
  · subst h3
    simp at hc
    rw [BitVec.le_def] at hc
    simp only [if_true]
    refine meet?_has hx ?_
    rw [has_iff]
    simp only [BitVec.toNat_ofNat]
    omega
  rw [if_neg h3]
  by_cases h4 : op = 160
  · subst h4
    simp at hc
    rw [BitVec.lt_def] at hc
    simp only [if_true]
    split
    · rename_i h; rw [h] at hy'; have : (0#64).toNat = 0 := rfl; omega
    · refine meet?_has hx ?_
      rw [has_iff]
      rw [BitVec.toNat_sub_of_le (by rw [BitVec.le_def]; show 1 ≤ _; omega)]
      show 0 ≤ _ ∧ _ ≤ _ - 1
      omega
  rw [if_neg h4]
  by_cases h5 : op = 176
  · subst h5
    simp at hc
    rw [BitVec.le_def] at hc
    simp only [if_true]
    refine meet?_has hx ?_
    rw [has_iff]
    show 0 ≤ x.toNat ∧ x.toNat ≤ b.hi.toNat
    omega
  rw [if_neg h5]
  by_cases h6 : op = 80
  · subst h6
    simp at hc
    simp only [if_true]
    split
    · rename_i h
      refine without_has hx ?_
      intro e
      apply hc
      apply BitVec.eq_of_toNat_eq
      rw [h] at hy' e
      rw [e]
      omega
    · exact ⟨_, rfl, hx⟩
  rw [if_neg h6]
  by_cases h7 : op = 64
  · subst h7
    simp at hc
    simp only [if_true]
    split
    · rename_i h
      exfalso
      apply hc
      have zero : (0#64).toNat = 0 := rfl
      rcases h with h | h
      · rw [h] at hx'
        have : x = 0#64 := BitVec.eq_of_toNat_eq (by omega)
        rw [this]; simp
      · rw [h] at hy'
        have : y = 0#64 := BitVec.eq_of_toNat_eq (by omega)
        rw [this]; simp
    · exact ⟨_, rfl, hx⟩
  rw [if_neg h7]
  exact ⟨_, rfl, hx⟩
end Sp
end Hk
