/- Plain laws of conditions that the statements ask for; no program in sight. No condition but those in each statement. -/
import Derived.Test.YtijlcdgjeonaeaaCondDo
import Derived.Test.YtijlcdgjeonaeaaAluLaw
namespace Hk
namespace Cond
open Alu
theorem is_low (op : Int) (a b c : BitVec 64) : is op false (a ^^^ c <<< 32) (b ^^^ c >>> 32 <<< 32) = is op false a b := by
  unfold is
  simp only [Bool.false_eq_true, if_false]
  rw [low_xor, low_xor]
theorem is_f (op : Int) (a b : BitVec 64) : is op false a b = gen 32 op (dn a) (dn b) := by unfold is; rw [if_neg (by decide)]; rfl
theorem is_t (op : Int) (a b : BitVec 64) : is op true a b = gen 64 op a b := by unfold is; rw [if_pos rfl]
theorem mod31 (a : BitVec 64) : (a % 2147483648#64).toNat < 2147483648 := by
  rw [BitVec.toNat_umod]; exact Nat.mod_lt _ (by decide)
theorem up_dn {x : BitVec 64} (h : x.toNat < 2147483648) : up (dn x) = x := low_small x (by omega)
theorem small_int {x : BitVec 64} (h : x.toNat < 2147483648) : (sgn (up (dn x)) 32).toInt = (sgn x 64).toInt := by
  have e : (dn x).toNat = x.toNat := by
    unfold dn; rw [BitVec.toNat_setWidth]; omega
  have e1 : (dn x).toInt = ((dn x).toNat : Int) := BitVec.toInt_eq_toNat_of_lt (by rw [e]; omega)
  have e2 : x.toInt = (x.toNat : Int) := BitVec.toInt_eq_toNat_of_lt (by omega)
  rw [sgn_up32, sx_int, sgn_64, e1, e2, e]
theorem is_small (op : Int) {x y : BitVec 64} (hx : x.toNat < 2147483648) (hy : y.toNat < 2147483648) : is op true x y = is op false x y := by
  by_cases h0 : op = 0
  · subst h0; rw [is_0, is_0]
  by_cases h64 : op = 64
  · subst h64; rw [is_64, is_64]; simp only [if_true, Bool.false_eq_true, if_false, up_dn hx, up_dn hy]
  cases hs : signed op
  · rw [is_u h0 h64 hs, is_u h0 h64 hs]; simp only [if_true, Bool.false_eq_true, if_false, up_dn hx, up_dn hy]
  · rw [is_s hs, is_s hs]; simp only [if_true, Bool.false_eq_true, if_false, small_int hx, small_int hy]
theorem is_some (op : Int) (wd : Bool) (a b : BitVec 64) : (is op wd a b).isSome = (op == 0 || op == 64 || cmpOk op) := by
  by_cases h0 : op = 0
  · subst h0; rw [is_0]; rfl
  by_cases h64 : op = 64
  · subst h64; rw [is_64]; rfl
  have e0 : (op == 0) = false := by simpa using h0
  have e1 : (op == 64) = false := by simpa using h64
  cases hs : signed op
  · rw [is_u h0 h64 hs, e0, e1]; cases cmpOk op <;> rfl
  · rw [is_s hs, ok_signed hs, e0, e1]; rfl
theorem err_is (op : Int) (wd wd' : Bool) (a b c d : BitVec 64) : err (is op wd a b) = err (is op wd' c d) := by
  unfold err; rw [is_some, is_some]
theorem three (op : Int) (h : op = 176 ∨ op = 208) (wd : Bool) (a b c : BitVec 64) : ∃ p q r, is op wd a b = some p ∧ is op wd b c = some q ∧ is op wd a c = some r ∧ (!p || !q || r) = true := by
  rcases h with rfl | rfl <;> cases wd
  · refine ⟨_, _, _, rfl, rfl, rfl, ?_⟩
    rw [Bool.or_eq_true, Bool.or_eq_true, Bool.not_eq_true', Bool.not_eq_true', decide_eq_false_iff_not, decide_eq_false_iff_not, decide_eq_true_iff, BitVec.le_def, BitVec.le_def, BitVec.le_def]; omega
  · refine ⟨_, _, _, rfl, rfl, rfl, ?_⟩
    rw [Bool.or_eq_true, Bool.or_eq_true, Bool.not_eq_true', Bool.not_eq_true', decide_eq_false_iff_not, decide_eq_false_iff_not, decide_eq_true_iff, BitVec.le_def, BitVec.le_def, BitVec.le_def]; omega
  · refine ⟨_, _, _, rfl, rfl, rfl, ?_⟩
    unfold BitVec.sle
    rw [Bool.or_eq_true, Bool.or_eq_true, Bool.not_eq_true', Bool.not_eq_true', decide_eq_false_iff_not, decide_eq_false_iff_not, decide_eq_true_iff]; omega
  · refine ⟨_, _, _, rfl, rfl, rfl, ?_⟩
    unfold BitVec.sle
    rw [Bool.or_eq_true, Bool.or_eq_true, Bool.not_eq_true', Bool.not_eq_true', decide_eq_false_iff_not, decide_eq_false_iff_not, decide_eq_true_iff]; omega
/-- of less, more and the same just one -/
theorem ord_one (w : Nat) (x y : BitVec w) : ∃ p q r s t, gen w 160 x y = some p ∧ gen w 32 x y = some q ∧ gen w 16 x y = some r ∧ gen w 192 x y = some s ∧ gen w 96 x y = some t ∧
    ((r = true ∧ p = false ∧ q = false ∧ s = false ∧ t = false) ∨ (r = false ∧ q = (!p) ∧ t = (!s))) := by
  refine ⟨_, _, _, _, _, rfl, rfl, rfl, rfl, rfl, ?_⟩
  by_cases h : x = y
  · subst h; left; simp [BitVec.slt]
  · right
    have h1 : ¬ x.toNat = y.toNat := fun e => h (BitVec.eq_of_toNat_eq e)
    have h2 : ¬ x.toInt = y.toInt := fun e => h (BitVec.eq_of_toInt_eq e)
    refine ⟨by simpa using h, ?_, ?_⟩
    · rw [Bool.eq_iff_iff, Bool.not_eq_true', decide_eq_true_iff, decide_eq_false_iff_not, BitVec.lt_def, BitVec.lt_def]; omega
    · unfold BitVec.slt
      rw [Bool.eq_iff_iff, Bool.not_eq_true', decide_eq_true_iff, decide_eq_false_iff_not]; omega
theorem one (wd : Bool) (a b : BitVec 64) : ∃ p q r s t, is 160 wd a b = some p ∧ is 32 wd a b = some q ∧ is 16 wd a b = some r ∧ is 192 wd a b = some s ∧ is 96 wd a b = some t ∧
    ((r = true ∧ p = false ∧ q = false ∧ s = false ∧ t = false) ∨ (r = false ∧ q = (!p) ∧ t = (!s))) := by
  cases wd
  · simp only [is_f]; exact ord_one 32 _ _
  · simp only [is_t]; exact ord_one 64 _ _
theorem not_is (op n : Int) (h : neg op = some n) (wd : Bool) (a b : BitVec 64) : ∃ p, is op wd a b = some p ∧ is n wd a b = some (!p) := by
  cases wd
  · simp only [is_f]; exact gen_neg 32 op n h _ _
  · simp only [is_t]; exact gen_neg 64 op n h _ _
theorem turned_is (op n : Int) (h : turned op = some n) (wd : Bool) (a b : BitVec 64) : is n wd b a = is op wd a b := by
  cases wd
  · simp only [is_f]; exact (gen_turned 32 op n h _ _).symm
  · simp only [is_t]; exact (gen_turned 64 op n h _ _).symm
/-- what holds of a number and itself -/
theorem self_gen (w : Nat) (x : BitVec w) : gen w 16 x x = some true ∧ gen w 48 x x = some true ∧ gen w 176 x x = some true ∧ gen w 112 x x = some true ∧ gen w 208 x x = some true ∧ gen w 0 x x = some true ∧
    gen w 80 x x = some false ∧ gen w 32 x x = some false ∧ gen w 160 x x = some false ∧ gen w 96 x x = some false ∧ gen w 192 x x = some false := by
  refine ⟨?_, ?_, ?_, ?_, ?_, ?_, ?_, ?_, ?_, ?_, ?_⟩ <;> simp [gen, BitVec.slt, BitVec.sle]
theorem self_is (wd : Bool) (x : BitVec 64) : is 16 wd x x = some true ∧ is 48 wd x x = some true ∧ is 176 wd x x = some true ∧ is 112 wd x x = some true ∧ is 208 wd x x = some true ∧ is 0 wd x x = some true ∧
    is 80 wd x x = some false ∧ is 32 wd x x = some false ∧ is 160 wd x x = some false ∧ is 96 wd x x = some false ∧ is 192 wd x x = some false := by
  cases wd
  · simp only [is_f]; exact self_gen 32 _
  · simp only [is_t]; exact self_gen 64 _
end Cond
end Hk
