/- Plain laws: what the program and the reference of conditions reckon is whether the condition holds; no program in sight. No condition but those in each statement. -/
import Derived.Test.YtijlcdgjeonaeaaSp
import Derived.Test.YtijlcdgjeonaeaaAluRn
namespace Hk
namespace Cond
def val (o : Option Bool) : Bool := o.getD false
def err (o : Option Bool) : Int := if o.isSome then 0 else 1
theorem val_some (z : Bool) : val (some z) = z := rfl
theorem err_some (z : Bool) : err (some z) = 0 := rfl
theorem val_none : val none = false := rfl
theorem err_none : err none = 1 := rfl
def ordU (x y : BitVec 64) : Int := if x < y then -1 else if y < x then 1 else 0
def ordI (x y : Int) : Int := if x < y then -1 else if y < x then 1 else 0
theorem ordU_3 (x y : BitVec 64) : ordU x y = -1 ∨ ordU x y = 0 ∨ ordU x y = 1 := by
  unfold ordU; split; exact .inl rfl; split; exact .inr (.inr rfl); exact .inr (.inl rfl)
theorem ordI_3 (x y : Int) : ordI x y = -1 ∨ ordI x y = 0 ∨ ordI x y = 1 := by
  unfold ordI; split; exact .inl rfl; split; exact .inr (.inr rfl); exact .inr (.inl rfl)
def cmpOk (op : Int) : Bool := op == 16 || op == 80 || op == 48 || op == 112 || op == 32 || op == 96 || op == 176 || op == 208 || op == 160 || op == 192
def cmpB (op o : Int) : Bool :=
  if op = 16 then o == 0 else if op = 80 then o != 0 else if op = 48 ∨ op = 112 then (if o = 0 then true else decide (0 < o)) else if op = 32 ∨ op = 96 then decide (0 < o)
  else if op = 176 ∨ op = 208 then (if o = 0 then true else decide (o < 0)) else if op = 160 ∨ op = 192 then decide (o < 0) else false
/-- an order, as the conditions ask for it -/
def gen3 (op : Int) (lt eq : Bool) : Bool :=
  if op = 16 then eq else if op = 80 then !eq else if op = 48 ∨ op = 112 then !lt else if op = 32 ∨ op = 96 then !lt && !eq
  else if op = 176 ∨ op = 208 then lt || eq else if op = 160 ∨ op = 192 then lt else false
theorem cmpB_gen3 {op o : Int} {lt eq : Bool} (h : (o = -1 ∧ lt = true ∧ eq = false) ∨ (o = 0 ∧ lt = false ∧ eq = true) ∨ (o = 1 ∧ lt = false ∧ eq = false)) : cmpB op o = gen3 op lt eq := by
  unfold cmpB gen3
  rcases h with ⟨rfl, rfl, rfl⟩ | ⟨rfl, rfl, rfl⟩ | ⟨rfl, rfl, rfl⟩ <;> simp
theorem ordU_is (x y : BitVec 64) : (ordU x y = -1 ∧ decide (x < y) = true ∧ (x == y) = false) ∨ (ordU x y = 0 ∧ decide (x < y) = false ∧ (x == y) = true) ∨ (ordU x y = 1 ∧ decide (x < y) = false ∧ (x == y) = false) := by
  unfold ordU
  simp only [BitVec.lt_def, beq_eq_false_iff_ne, ne_eq, beq_iff_eq, ← BitVec.toNat_inj, decide_eq_true_iff, decide_eq_false_iff_not]
  split
  · exact .inl ⟨rfl, by assumption, by omega⟩
  · split
    · exact .inr (.inr ⟨rfl, by assumption, by omega⟩)
    · exact .inr (.inl ⟨rfl, by assumption, by omega⟩)
theorem ordI_is (i j : Int) : (ordI i j = -1 ∧ decide (i < j) = true ∧ (i == j) = false) ∨ (ordI i j = 0 ∧ decide (i < j) = false ∧ (i == j) = true) ∨ (ordI i j = 1 ∧ decide (i < j) = false ∧ (i == j) = false) := by
  unfold ordI
  simp only [beq_eq_false_iff_ne, ne_eq, beq_iff_eq, decide_eq_true_iff, decide_eq_false_iff_not]
  split
  · exact .inl ⟨rfl, by assumption, by omega⟩
  · split
    · exact .inr (.inr ⟨rfl, by assumption, by omega⟩)
    · exact .inr (.inl ⟨rfl, by assumption, by omega⟩)
def signed (op : Int) : Bool := op == 96 || op == 112 || op == 192 || op == 208
/-- what a condition asks, by an order -/
theorem gen_u {w : Nat} {op : Int} (h0 : ¬ op = 0) (h64 : ¬ op = 64) (hs : signed op = false) (x y : BitVec w) : gen w op x y = if cmpOk op then some (gen3 op (decide (x < y)) (x == y)) else none := by
  have l1 : decide (y < x) = (!decide (x < y) && !(x == y)) := by
    rw [Bool.eq_iff_iff]; simp only [Bool.and_eq_true, Bool.not_eq_true', decide_eq_true_iff, decide_eq_false_iff_not, beq_eq_false_iff_ne, ne_eq, BitVec.lt_def, ← BitVec.toNat_inj]; omega
  have l2 : decide (y ≤ x) = !decide (x < y) := by
    rw [Bool.eq_iff_iff]; simp only [Bool.not_eq_true', decide_eq_true_iff, decide_eq_false_iff_not, BitVec.lt_def, BitVec.le_def]; omega
  have l3 : decide (x ≤ y) = (decide (x < y) || (x == y)) := by
    rw [Bool.eq_iff_iff]; simp only [Bool.or_eq_true, decide_eq_true_iff, beq_iff_eq, BitVec.lt_def, BitVec.le_def, ← BitVec.toNat_inj]; omega
  unfold signed at hs
  simp only [Bool.or_eq_false_iff, beq_eq_false_iff_ne, ne_eq] at hs
  obtain ⟨⟨⟨s1, s2⟩, s3⟩, s4⟩ := hs
  by_cases a1 : op = 16
  · subst a1; rfl
  by_cases a2 : op = 80
  · subst a2; rfl
  by_cases a3 : op = 48
  · subst a3; exact congrArg some l2
  by_cases a4 : op = 32
  · subst a4; exact congrArg some l1
  by_cases a5 : op = 176
  · subst a5; exact congrArg some l3
  by_cases a6 : op = 160
  · subst a6; rfl
  simp [gen, cmpOk, h0, h64, s1, s2, s3, s4, a1, a2, a3, a4, a5, a6]
theorem gen_s {w : Nat} {op : Int} (hs : signed op = true) (x y : BitVec w) : gen w op x y = some (gen3 op (decide (x.toInt < y.toInt)) (x.toInt == y.toInt)) := by
  unfold signed at hs
  simp only [Bool.or_eq_true, beq_iff_eq] at hs
  rcases hs with ((rfl | rfl) | rfl) | rfl
  · refine congrArg some ?_
    show decide (y.toInt < x.toInt) = (!decide (x.toInt < y.toInt) && !(x.toInt == y.toInt))
    rw [Bool.eq_iff_iff]; simp only [Bool.and_eq_true, Bool.not_eq_true', decide_eq_true_iff, decide_eq_false_iff_not, beq_eq_false_iff_ne, ne_eq]; omega
  · refine congrArg some ?_
    show decide (y.toInt ≤ x.toInt) = !decide (x.toInt < y.toInt)
    rw [Bool.eq_iff_iff]; simp only [Bool.not_eq_true', decide_eq_true_iff, decide_eq_false_iff_not]; omega
  · exact rfl
  · refine congrArg some ?_
    show decide (x.toInt ≤ y.toInt) = (decide (x.toInt < y.toInt) || (x.toInt == y.toInt))
    rw [Bool.eq_iff_iff]; simp only [Bool.or_eq_true, decide_eq_true_iff, beq_iff_eq]; omega
open Alu in
theorem up_lt (X Y : BitVec 32) : decide (up X < up Y) = decide (X < Y) := by simp only [BitVec.lt_def, up_nat]
open Alu in
theorem up_le (X Y : BitVec 32) : decide (up X ≤ up Y) = decide (X ≤ Y) := by simp only [BitVec.le_def, up_nat]
open Alu in
theorem sgn_up32 (X : BitVec 32) : sgn (up X) 32 = X.signExtend 64 := by
  rw [sgn_in (by omega) (by omega), show ((64 : Int) - 32).toNat = 64 - 32 from rfl, sign_bits _ 32 (by omega) (by omega)]
  congr 1; exact dn_up X
theorem sx_int (X : BitVec 32) : (X.signExtend 64).toInt = X.toInt := BitVec.toInt_signExtend_of_le (by omega)
open Alu in
theorem is_u {op : Int} (h0 : ¬ op = 0) (h64 : ¬ op = 64) (hs : signed op = false) (wd : Bool) (a b : BitVec 64) :
    is op wd a b = if cmpOk op then some (cmpB op (ordU (if wd then a else up (dn a)) (if wd then b else up (dn b)))) else none := by
  cases wd
  · show gen 32 op (dn a) (dn b) = _
    rw [gen_u h0 h64 hs, cmpB_gen3 (ordU_is _ _)]
    simp only [Bool.false_eq_true, if_false, up_lt, up_inj]
  · show gen 64 op a b = _
    rw [gen_u h0 h64 hs, cmpB_gen3 (ordU_is _ _)]
    simp only [if_true]
open Alu in
theorem is_s {op : Int} (hs : signed op = true) (wd : Bool) (a b : BitVec 64) :
    is op wd a b = some (cmpB op (ordI (if wd then (sgn a 64).toInt else (sgn (up (dn a)) 32).toInt) (if wd then (sgn b 64).toInt else (sgn (up (dn b)) 32).toInt))) := by
  cases wd
  · show gen 32 op (dn a) (dn b) = _
    rw [gen_s hs, cmpB_gen3 (ordI_is _ _)]
    simp only [Bool.false_eq_true, if_false, sgn_up32, sx_int]
  · show gen 64 op a b = _
    rw [gen_s hs, cmpB_gen3 (ordI_is _ _)]
    simp only [if_true, sgn_64]
theorem ok_signed {op : Int} (hs : signed op = true) : cmpOk op = true := by
  unfold signed at hs
  simp only [Bool.or_eq_true, beq_iff_eq] at hs
  rcases hs with ((rfl | rfl) | rfl) | rfl <;> rfl
open Alu in
theorem is_0 (wd : Bool) (a b : BitVec 64) : is 0 wd a b = some true := by cases wd <;> rfl
open Alu in
theorem is_64 (wd : Bool) (a b : BitVec 64) : is 64 wd a b = some (!((if wd then a else up (dn a)) &&& (if wd then b else up (dn b)) == 0#64)) := by
  cases wd
  · show some (dn a &&& dn b != 0#32) = _
    simp only [Bool.false_eq_true, if_false]
    have : (up (dn a) &&& up (dn b) == 0#64) = (dn a &&& dn b == 0#32) := by
      rw [← up_zero_beq]
      congr 1
    rw [this]; rfl
  · rfl
/-- signed, as the reference has it: both moved by half of all numbers -/
theorem flip_nat (x : BitVec 64) : ((x + 9223372036854775808#64).toNat : Int) = x.toInt + 9223372036854775808 := by
  rw [BitVec.toNat_add, BitVec.toInt_eq_toNat_cond]
  have := x.isLt
  have e : (9223372036854775808#64).toNat = 9223372036854775808 := rfl
  rw [e]
  split <;> omega
theorem flip_lt (x y : BitVec 64) : decide (x + 9223372036854775808#64 < y + 9223372036854775808#64) = decide (x.toInt < y.toInt) := by
  have := flip_nat x; have := flip_nat y
  rw [Bool.eq_iff_iff, decide_eq_true_iff, decide_eq_true_iff, BitVec.lt_def]; omega
theorem flip_le (x y : BitVec 64) : decide (x + 9223372036854775808#64 ≤ y + 9223372036854775808#64) = decide (x.toInt ≤ y.toInt) := by
  have := flip_nat x; have := flip_nat y
  rw [Bool.eq_iff_iff, decide_eq_true_iff, decide_eq_true_iff, BitVec.le_def]; omega
open Alu
def lo (wd : Bool) (a : BitVec 64) : BitVec 64 := if wd then a else a % 4294967296#64
def lk (wd : Bool) : Int := if wd then 64 else 32
theorem half (a : BitVec 64) : a ^^^ 9223372036854775808#64 = a + 9223372036854775808#64 := by
  apply bt_ext; intro i hi
  rw [bt_add _ _ _ hi, bt_xor]
  have e : BitVec.carry i a 9223372036854775808#64 false = false := by
    have h0 : (9223372036854775808 : Nat) % 2 ^ i = 0 := Nat.mod_eq_zero_of_dvd (Nat.pow_dvd_pow 2 (show i ≤ 63 by omega))
    have h1 := Nat.mod_lt a.toNat (Nat.two_pow_pos i)
    unfold BitVec.carry
    rw [show (9223372036854775808#64).toNat = 9223372036854775808 from rfl, h0]
    simp; omega
  rw [e]; simp
/-- moved by half of all numbers (the highest bit turned: a form that the kernel leaves alone) -/
def flip (a : BitVec 64) : BitVec 64 := a ^^^ 9223372036854775808#64
theorem flip_eq (a : BitVec 64) : flip a = a + 9223372036854775808#64 := half a
def fl (wd : Bool) (a : BitVec 64) : BitVec 64 := flip (sgn (lo wd a) (lk wd))
theorem r_0 (wd : Bool) (a b : BitVec 64) : is 0 wd a b = some true := is_0 wd a b
theorem lo_up (a : BitVec 64) : lo false a = up (dn a) := cut_up a
theorem fl_n (a : BitVec 64) : fl false a = (dn a).signExtend 64 + 9223372036854775808#64 := by
  rw [show fl false a = flip (sgn (lo false a) 32) from rfl, flip_eq]
  rw [lo_up, sgn_up32]
theorem fl_w (a : BitVec 64) : fl true a = a + 9223372036854775808#64 := by
  rw [show fl true a = flip (sgn a 64) from rfl, flip_eq]
  rw [sgn_64]
theorem r_16 (wd : Bool) (a b : BitVec 64) : is 16 wd a b = some (lo wd a == lo wd b) := by
  cases wd
  · rw [lo_up, lo_up, up_inj]; rfl
  · rfl
theorem r_80 (wd : Bool) (a b : BitVec 64) : is 80 wd a b = some (!(lo wd a == lo wd b)) := by
  cases wd
  · rw [lo_up, lo_up, up_inj]; rfl
  · rfl
theorem r_32 (wd : Bool) (a b : BitVec 64) : is 32 wd a b = some (decide (lo wd b < lo wd a)) := by
  cases wd
  · rw [lo_up, lo_up, up_lt]; rfl
  · rfl
theorem r_48 (wd : Bool) (a b : BitVec 64) : is 48 wd a b = some (decide (lo wd b ≤ lo wd a)) := by
  cases wd
  · rw [lo_up, lo_up, up_le]; rfl
  · rfl
theorem r_160 (wd : Bool) (a b : BitVec 64) : is 160 wd a b = some (decide (lo wd a < lo wd b)) := by
  cases wd
  · rw [lo_up, lo_up, up_lt]; rfl
  · rfl
theorem r_176 (wd : Bool) (a b : BitVec 64) : is 176 wd a b = some (decide (lo wd a ≤ lo wd b)) := by
  cases wd
  · rw [lo_up, lo_up, up_le]; rfl
  · rfl
theorem r_96 (wd : Bool) (a b : BitVec 64) : is 96 wd a b = some (decide (fl wd b < fl wd a)) := by
  cases wd
  · rw [fl_n, fl_n, flip_lt, sx_int, sx_int]; rfl
  · rw [fl_w, fl_w, flip_lt]; rfl
theorem r_112 (wd : Bool) (a b : BitVec 64) : is 112 wd a b = some (decide (fl wd b ≤ fl wd a)) := by
  cases wd
  · rw [fl_n, fl_n, flip_le, sx_int, sx_int]; rfl
  · rw [fl_w, fl_w, flip_le]; rfl
theorem r_192 (wd : Bool) (a b : BitVec 64) : is 192 wd a b = some (decide (fl wd a < fl wd b)) := by
  cases wd
  · rw [fl_n, fl_n, flip_lt, sx_int, sx_int]; rfl
  · rw [fl_w, fl_w, flip_lt]; rfl
theorem r_208 (wd : Bool) (a b : BitVec 64) : is 208 wd a b = some (decide (fl wd a ≤ fl wd b)) := by
  cases wd
  · rw [fl_n, fl_n, flip_le, sx_int, sx_int]; rfl
  · rw [fl_w, fl_w, flip_le]; rfl
theorem r_64 (wd : Bool) (a b : BitVec 64) : is 64 wd a b = some (!(lo wd a &&& lo wd b == 0#64)) := by
  rw [is_64]
  cases wd
  · rw [lo_up, lo_up]; rfl
  · rfl
theorem q_96t (a b : BitVec 64) : is 96 true a b = some (decide (flip (sgn b 64) < flip (sgn a 64))) := r_96 true a b
theorem q_96f (a b : BitVec 64) : is 96 false a b = some (decide (flip (sgn (b % 4294967296#64) 32) < flip (sgn (a % 4294967296#64) 32))) := r_96 false a b
theorem q_112t (a b : BitVec 64) : is 112 true a b = some (decide (flip (sgn b 64) ≤ flip (sgn a 64))) := r_112 true a b
theorem q_112f (a b : BitVec 64) : is 112 false a b = some (decide (flip (sgn (b % 4294967296#64) 32) ≤ flip (sgn (a % 4294967296#64) 32))) := r_112 false a b
theorem q_192t (a b : BitVec 64) : is 192 true a b = some (decide (flip (sgn a 64) < flip (sgn b 64))) := r_192 true a b
theorem q_192f (a b : BitVec 64) : is 192 false a b = some (decide (flip (sgn (a % 4294967296#64) 32) < flip (sgn (b % 4294967296#64) 32))) := r_192 false a b
theorem q_208t (a b : BitVec 64) : is 208 true a b = some (decide (flip (sgn a 64) ≤ flip (sgn b 64))) := r_208 true a b
theorem q_208f (a b : BitVec 64) : is 208 false a b = some (decide (flip (sgn (a % 4294967296#64) 32) ≤ flip (sgn (b % 4294967296#64) 32))) := r_208 false a b
theorem q_16t (a b : BitVec 64) : is 16 true a b = some (a == b) := r_16 true a b
theorem q_16f (a b : BitVec 64) : is 16 false a b = some (a % 4294967296#64 == b % 4294967296#64) := r_16 false a b
theorem q_80t (a b : BitVec 64) : is 80 true a b = some (!(a == b)) := r_80 true a b
theorem q_80f (a b : BitVec 64) : is 80 false a b = some (!(a % 4294967296#64 == b % 4294967296#64)) := r_80 false a b
theorem q_32t (a b : BitVec 64) : is 32 true a b = some (decide (b < a)) := r_32 true a b
theorem q_32f (a b : BitVec 64) : is 32 false a b = some (decide (b % 4294967296#64 < a % 4294967296#64)) := r_32 false a b
theorem q_48t (a b : BitVec 64) : is 48 true a b = some (decide (b ≤ a)) := r_48 true a b
theorem q_48f (a b : BitVec 64) : is 48 false a b = some (decide (b % 4294967296#64 ≤ a % 4294967296#64)) := r_48 false a b
theorem q_160t (a b : BitVec 64) : is 160 true a b = some (decide (a < b)) := r_160 true a b
theorem q_160f (a b : BitVec 64) : is 160 false a b = some (decide (a % 4294967296#64 < b % 4294967296#64)) := r_160 false a b
theorem q_176t (a b : BitVec 64) : is 176 true a b = some (decide (a ≤ b)) := r_176 true a b
theorem q_176f (a b : BitVec 64) : is 176 false a b = some (decide (a % 4294967296#64 ≤ b % 4294967296#64)) := r_176 false a b
theorem q_64t (a b : BitVec 64) : is 64 true a b = some (!(a &&& b == 0#64)) := r_64 true a b
theorem q_64f (a b : BitVec 64) : is 64 false a b = some (!(a % 4294967296#64 &&& b % 4294967296#64 == 0#64)) := r_64 false a b
theorem q_0t (a b : BitVec 64) : is 0 true a b = some true := r_0 true a b
theorem q_0f (a b : BitVec 64) : is 0 false a b = some true := r_0 false a b
theorem is_else (op : Int) (wd : Bool) (a b : BitVec 64) (h0 : ¬ op = 0) (h1 : ¬ op = 16) (h2 : ¬ op = 32) (h3 : ¬ op = 48) (h4 : ¬ op = 64) (h5 : ¬ op = 80) (h6 : ¬ op = 96) (h7 : ¬ op = 112) (h8 : ¬ op = 160) (h9 : ¬ op = 176) (h10 : ¬ op = 192) (h11 : ¬ op = 208) : is op wd a b = none := by
  unfold is gen; cases wd <;> simp [h0, h1, h2, h3, h4, h5, h6, h7, h8, h9, h10, h11]
end Cond
end Hk
