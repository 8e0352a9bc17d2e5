/- What is known of a register, as a kind, a fact, a map's number and an offset: the document's words in plain Lean, no program in sight. No condition but those in each statement. Plain laws of what is known of a register; no program in sight. No condition but those in each statement. Plain laws of where a register is moved; no program in sight. No condition but those in each statement. Plain laws: registers of unlike kinds have no number in common; no program in sight. No condition but those in each statement. Plain law: a number is where a map's value is just if it is there in one of its slots; no program in sight. No condition but those in each statement. -/
import Derived.Test.YtjeanjbjngbfcaaGf
namespace Hk
structure Vl where
  k : Int
  f : Fa
  i : Int
  off : Int
deriving DecidableEq
namespace Vl
def zero : Vl := ⟨0, Fa.zero, 0, 0⟩
def reach (o : Int) : Bool := decide (-1048576 ≤ o) && decide (o ≤ 1048576)
def isZ (f : Fa) : Bool := (f.t.v == 0#64) && (f.t.m == 0#64) && (f.s.lo == 0#64) && (f.s.hi == 0#64)
def right (v : Vl) : Bool :=
  !decide (v.i < 0) && !decide (8 ≤ v.i) && reach v.off &&
  (if v.k = 0 then isZ v.f && decide (v.i = 0) && decide (v.off = 0)
   else if v.k = 1 then decide (v.i = 0) && decide (v.off = 0) && Fa.ok v.f
   else if v.k = 2 ∨ v.k = 3 then isZ v.f && decide (v.i = 0)
   else if v.k = 4 ∨ v.k = 6 then isZ v.f && decide (v.off = 0)
   else if v.k = 5 then isZ v.f else false)
theorem eta (v : Vl) : Vl.mk v.k v.f v.i v.off = v := rfl
theorem isZ_iff {f : Fa} : isZ f = true ↔ f = Fa.zero := by
  obtain ⟨⟨a, b⟩, ⟨c, d⟩⟩ := f
  simp only [isZ, Fa.zero, Bool.and_eq_true, beq_iff_eq, Fa.mk.injEq, Tn.mk.injEq, Sp.mk.injEq]
  constructor
  · rintro ⟨⟨⟨h1, h2⟩, h3⟩, h4⟩; exact ⟨⟨h1, h2⟩, h3, h4⟩
  · rintro ⟨⟨h1, h2⟩, h3, h4⟩; exact ⟨⟨⟨h1, h2⟩, h3⟩, h4⟩
def at_ (a o : Int) : BitVec 64 := BitVec.ofInt 64 a <<< 32 + BitVec.ofInt 64 o
def area (i s : Int) : Int := 4096 + 1024 * i + s
def num (f : Fa) : Vl := if Fa.ok f then ⟨1, f, 0, 0⟩ else zero
def ptr (v : Vl) : Bool := (decide (v.k = 2) || decide (v.k = 3) || decide (v.k = 5)) && right v
def inA (i off : Int) (n : BitVec 64) : Bool :=
  (n - BitVec.ofInt 64 off == ((n - BitVec.ofInt 64 off) >>> 32) <<< 32) && decide (BitVec.ofInt 64 (area i 0) ≤ (n - BitVec.ofInt 64 off) >>> 32) && decide ((n - BitVec.ofInt 64 off) >>> 32 ≤ BitVec.ofInt 64 (area i 1023))
def is_ (v : Vl) (n : BitVec 64) (set : Bool) : Bool :=
  right v && (decide (v.k = 0) || (set &&
    (if v.k = 1 then Fa.has v.f n else if v.k = 2 then n == at_ 1 v.off else if v.k = 3 then n == at_ 2 v.off else if v.k = 4 then n == at_ 3 v.i
     else ((n == 0#64) && decide (v.k = 6)) || inA v.i v.off n)))
def within (a b : Vl) : Bool := right a && right b && (if a.k = 1 ∧ b.k = 1 then Fa.within a.f b.f else decide (b.k = 0) || decide (a = b))
def join (a b : Vl) : Vl := if (right a && right b) = true then (if a.k = 1 ∧ b.k = 1 then num (Fa.join a.f b.f) else if a = b then a else zero) else zero
def moveOk (v : Vl) (n : BitVec 64) : Bool := ptr v && reach n.toInt && reach (v.off + n.toInt)
def move (v : Vl) (n : BitVec 64) : Vl := if moveOk v n = true then ⟨v.k, v.f, v.i, v.off + n.toInt⟩ else zero
theorem eq_iff {a b : Vl} : a = b ↔ a.k = b.k ∧ a.f.t.v = b.f.t.v ∧ a.f.t.m = b.f.t.m ∧ a.f.s.lo = b.f.s.lo ∧ a.f.s.hi = b.f.s.hi ∧ a.i = b.i ∧ a.off = b.off := by
  constructor
  · rintro rfl; exact ⟨rfl, rfl, rfl, rfl, rfl, rfl, rfl⟩
  · obtain ⟨k, ⟨⟨x, y⟩, ⟨z, u⟩⟩, i, o⟩ := a
    obtain ⟨k', ⟨⟨x', y'⟩, ⟨z', u'⟩⟩, i', o'⟩ := b
    rintro ⟨h1, h2, h3, h4, h5, h6, h7⟩
    simp only at h1 h2 h3 h4 h5 h6 h7
    subst h1 h2 h3 h4 h5 h6 h7
    rfl
theorem reach_iff {o : Int} : reach o = true ↔ -1048576 ≤ o ∧ o ≤ 1048576 := by
  unfold reach; rw [Bool.and_eq_true, decide_eq_true_eq, decide_eq_true_eq]
theorem right_bounds {v : Vl} (h : right v = true) : 0 ≤ v.i ∧ v.i < 8 ∧ -1048576 ≤ v.off ∧ v.off ≤ 1048576 := by
  unfold right at h
  simp only [Bool.and_eq_true, Bool.not_eq_true', decide_eq_false_iff_not, reach_iff] at h
  omega
theorem right_kind {v : Vl} (h : right v = true) : v.k = 0 ∨ v.k = 1 ∨ v.k = 2 ∨ v.k = 3 ∨ v.k = 4 ∨ v.k = 5 ∨ v.k = 6 := by
  unfold right at h
  by_cases h0 : v.k = 0
  · exact .inl h0
  by_cases h1 : v.k = 1
  · exact .inr (.inl h1)
  by_cases h2 : v.k = 2
  · exact .inr (.inr (.inl h2))
  by_cases h3 : v.k = 3
  · exact .inr (.inr (.inr (.inl h3)))
  by_cases h4 : v.k = 4
  · exact .inr (.inr (.inr (.inr (.inl h4))))
  by_cases h5 : v.k = 5
  · exact .inr (.inr (.inr (.inr (.inr (.inl h5)))))
  by_cases h6 : v.k = 6
  · exact .inr (.inr (.inr (.inr (.inr (.inr h6)))))
  simp [h0, h1, h2, h3, h4, h5, h6] at h
end Vl
end Hk

namespace Hk
namespace Vl
theorem right_zero : right zero = true := by decide +kernel
theorem right_ok {v : Vl} (h : right v = true) (hk : v.k = 1) : Fa.ok v.f = true := by
  unfold right at h
  rw [if_neg (by omega), if_pos hk] at h
  simp only [Bool.and_eq_true] at h
  exact h.2.2
theorem fa_within_self {f : Fa} (h : Fa.ok f = true) : Fa.within f f = true := by
  obtain ⟨r1, r2⟩ := Fa.ok_right h
  exact Fa.within_iff.2 ⟨h, h, Fa.sub_refl r1 r2⟩
theorem within_self (a : Vl) : within a a = right a := by
  unfold within
  cases h : right a
  · rfl
  · by_cases hk : a.k = 1
    · rw [if_pos ⟨hk, hk⟩, fa_within_self (right_ok h hk)]; rfl
    · rw [if_neg (by intro e; exact hk e.1)]; simp
theorem within_zero (a : Vl) : within a zero = right a := by
  unfold within
  rw [right_zero, if_neg (by intro e; exact absurd e.2 (by decide))]
  simp [zero]
theorem within_right {a b : Vl} (h : within a b = true) : right a = true ∧ right b = true := by
  unfold within at h; simp only [Bool.and_eq_true] at h; exact h.1
theorem within_num {a b : Vl} (h : within a b = true) (ha : a.k = 1) (hb : b.k = 1) : Fa.within a.f b.f = true := by
  unfold within at h; rw [if_pos ⟨ha, hb⟩] at h; simp only [Bool.and_eq_true] at h; exact h.2
theorem within_not {a b : Vl} (h : within a b = true) (hn : ¬ (a.k = 1 ∧ b.k = 1)) : b.k = 0 ∨ a = b := by
  unfold within at h; rw [if_neg hn] at h; simp only [Bool.and_eq_true, Bool.or_eq_true, decide_eq_true_eq] at h; exact h.2
theorem within_none {a b : Vl} (ha : right a = true) (hb : right b = true) (h : b.k = 0) : within a b = true := by
  unfold within; rw [ha, hb, if_neg (by omega), h]; rfl
theorem fa_within_trans {a b c : Fa} (h : Fa.within a b = true) (h' : Fa.within b c = true) : Fa.within a c = true := by
  obtain ⟨h1, h2, h3⟩ := Fa.within_iff.1 h
  obtain ⟨h4, h5, h6⟩ := Fa.within_iff.1 h'
  exact Fa.within_iff.2 ⟨h1, h5, Fa.sub_trans h3 h6⟩
theorem within_trans {a b c : Vl} (h : within a b = true) (h' : within b c = true) : within a c = true := by
  obtain ⟨ra, rb⟩ := within_right h
  obtain ⟨_, rc⟩ := within_right h'
  by_cases hc : c.k = 0
  · exact within_none ra rc hc
  by_cases hbc : b.k = 1 ∧ c.k = 1
  · by_cases ha : a.k = 1
    · unfold within
      rw [ra, rc, if_pos ⟨ha, hbc.2⟩]
      exact fa_within_trans (within_num h ha hbc.1) (within_num h' hbc.1 hbc.2)
    · rcases within_not h (by intro e; exact ha e.1) with e | e
      · omega
      · rw [e]; exact h'
  · rcases within_not h' hbc with e | e
    · exact absurd e hc
    · rw [← e]; exact h
/-- what a register may be: a wider one may be it too -/
theorem is_within {a b : Vl} {n : BitVec 64} {set : Bool} (h : within a b = true) (hi : is_ a n set = true) : is_ b n set = true := by
  obtain ⟨ra, rb⟩ := within_right h
  by_cases hab : a.k = 1 ∧ b.k = 1
  · have hf := within_num h hab.1 hab.2
    unfold is_ at hi ⊢
    rw [ra, if_pos hab.1, hab.1] at hi
    rw [rb, if_pos hab.2, hab.2]
    simp only [Bool.true_and, Bool.or_eq_true, Bool.and_eq_true, decide_eq_true_eq] at hi ⊢
    rcases hi with e | ⟨h1, h2⟩
    · exact absurd e (by decide)
    · obtain ⟨o1, m1⟩ := Fa.has_iff.1 h2
      obtain ⟨_, o2, hs⟩ := Fa.within_iff.1 hf
      exact .inr ⟨h1, Fa.has_iff.2 ⟨o2, Fa.sub_may hs m1⟩⟩
  · rcases within_not h hab with e | e
    · unfold is_; rw [rb, e]; rfl
    · rw [← e]; exact hi
theorem num_within {f g : Fa} (h : Fa.within f g = true) : ∀ {a : Vl}, right a = true → a.k = 1 → a.f = f → within a (num g) = true := by
  intro a ra ha hf
  obtain ⟨_, og, _⟩ := Fa.within_iff.1 h
  unfold num
  rw [if_pos og]
  unfold within
  have rg : right ⟨1, g, 0, 0⟩ = true := by simp [right, og, reach]
  rw [ra, rg, if_pos ⟨ha, rfl⟩, hf]
  exact h
theorem within_join {a b : Vl} (ra : right a = true) (rb : right b = true) : within a (join a b) = true ∧ within b (join a b) = true := by
  unfold join
  rw [ra, rb]
  by_cases hn : a.k = 1 ∧ b.k = 1
  · rw [Bool.and_self, if_pos rfl, if_pos hn]
    have oa := right_ok ra hn.1
    have ob := right_ok rb hn.2
    obtain ⟨oj, s1, s2⟩ := Fa.join_spec oa ob
    exact ⟨num_within (Fa.within_iff.2 ⟨oa, oj, s1⟩) ra hn.1 rfl, num_within (Fa.within_iff.2 ⟨ob, oj, s2⟩) rb hn.2 rfl⟩
  · rw [Bool.and_self, if_pos rfl, if_neg hn]
    by_cases e : a = b
    · rw [if_pos e, ← e, within_self, ra]; exact ⟨rfl, rfl⟩
    · rw [if_neg e, within_zero, within_zero, ra, rb]; exact ⟨rfl, rfl⟩
end Vl
end Hk

namespace Hk
namespace Vl
theorem ptr_kind {v : Vl} (h : ptr v = true) : (v.k = 2 ∨ v.k = 3 ∨ v.k = 5) ∧ right v = true := by
  unfold ptr at h
  simp only [Bool.and_eq_true, Bool.or_eq_true, decide_eq_true_eq] at h
  exact ⟨by omega, h.2⟩
theorem moved_ptr {v : Vl} {o : Int} (h : ptr v = true) (ho : reach o = true) : ptr ⟨v.k, v.f, v.i, o⟩ = true := by
  obtain ⟨hk, hr⟩ := ptr_kind h
  unfold right at hr
  unfold ptr right
  rcases hk with e | e | e <;> (rw [e] at hr; simp at hr; simp [e, ho, hr])
theorem neg_toInt {by_ : BitVec 64} (h : reach by_.toInt = true) : (-by_).toInt = -by_.toInt := by
  have h := reach_iff.1 h
  rw [BitVec.toInt_neg, Int.bmod_eq_of_le] <;> omega
theorem ofInt_plus (a b : Int) : BitVec.ofInt 64 (a + b) = BitVec.ofInt 64 a + BitVec.ofInt 64 b := BitVec.ofInt_add a b
theorem at_plus (a o : Int) (b : BitVec 64) : at_ a (o + b.toInt) = at_ a o + b := by
  unfold at_
  rw [ofInt_plus, BitVec.ofInt_toInt, BitVec.add_assoc]
theorem inA_plus (i o : Int) (n b : BitVec 64) : inA i (o + b.toInt) (n + b) = inA i o n := by
  unfold inA
  have e : n + b - BitVec.ofInt 64 (o + b.toInt) = n - BitVec.ofInt 64 o := by
    rw [ofInt_plus, BitVec.ofInt_toInt]
    bv_omega
  rw [e]
theorem move_spec {v : Vl} {b : BitVec 64} (h : moveOk v b = true) : move v b = ⟨v.k, v.f, v.i, v.off + b.toInt⟩ ∧ ptr v = true ∧ ptr ⟨v.k, v.f, v.i, v.off + b.toInt⟩ = true ∧
    moveOk ⟨v.k, v.f, v.i, v.off + b.toInt⟩ (-b) = true ∧ move ⟨v.k, v.f, v.i, v.off + b.toInt⟩ (-b) = v := by
  have h0 := h
  unfold moveOk at h
  simp only [Bool.and_eq_true] at h
  obtain ⟨⟨hp, hr⟩, hs⟩ := h
  have hp2 := moved_ptr hp hs
  have hv := right_bounds (ptr_kind hp).2
  have hr' := reach_iff.1 hr
  have e := neg_toInt hr
  have hm : moveOk ⟨v.k, v.f, v.i, v.off + b.toInt⟩ (-b) = true := by
    unfold moveOk
    rw [hp2, e]
    simp only [Bool.true_and, Bool.and_eq_true]
    exact ⟨reach_iff.2 (by omega), reach_iff.2 (by omega)⟩
  refine ⟨by unfold move; rw [if_pos h0], hp, hp2, hm, ?_⟩
  unfold move
  rw [if_pos hm]
  refine eq_iff.2 ⟨rfl, rfl, rfl, rfl, rfl, rfl, ?_⟩
  show v.off + b.toInt + (-b).toInt = v.off
  omega
theorem move_is {v : Vl} {b n : BitVec 64} (hp : ptr v = true) (hp2 : ptr ⟨v.k, v.f, v.i, v.off + b.toInt⟩ = true) (hi : is_ v n true = true) : is_ ⟨v.k, v.f, v.i, v.off + b.toInt⟩ (n + b) true = true := by
  obtain ⟨hk, hr⟩ := ptr_kind hp
  obtain ⟨_, hr2⟩ := ptr_kind hp2
  unfold is_ at hi ⊢
  rw [hr] at hi
  rw [hr2]
  rcases hk with e | e | e
  · simp only [e] at hi ⊢
    simp at hi ⊢
    rw [hi, at_plus]
  · simp only [e] at hi ⊢
    simp at hi ⊢
    rw [hi, at_plus]
  · simp only [e] at hi ⊢
    simp at hi ⊢
    rw [inA_plus]
    exact hi
theorem move_no {v : Vl} {b : BitVec 64} (h : moveOk v b = false) : move v b = zero := by unfold move; rw [if_neg (by rw [h]; decide)]
end Vl
end Hk

namespace Hk
namespace Vl
theorem ofInt_nat {o : Int} (h0 : 0 ≤ o) (h1 : o < 4294967296) : (BitVec.ofInt 64 o).toNat = o.toNat := by
  rw [BitVec.toNat_ofInt]
  have p : ((2 ^ 64 : Nat) : Int) = 18446744073709551616 := by decide
  have e : o % ((2 ^ 64 : Nat) : Int) = o := Int.emod_eq_of_lt h0 (by rw [p]; omega)
  rw [e]
theorem at_nat {a o : Int} (ha0 : 0 ≤ a) (ha1 : a < 65536) (h0 : 0 ≤ o) (h1 : o < 4294967296) : (at_ a o).toNat = a.toNat * 4294967296 + o.toNat := by
  unfold at_
  rw [BitVec.toNat_add, BitVec.toNat_shiftLeft, ofInt_nat h0 h1, ofInt_nat ha0 (by omega), Nat.shiftLeft_eq]
  have e : (2 : Nat) ^ 32 = 4294967296 := by decide
  have e' : (2 : Nat) ^ 64 = 18446744073709551616 := by decide
  rw [e, e']
  omega
theorem inA_nat {i o : Int} {n : BitVec 64} (hi : 0 ≤ i) (hi' : i < 8) (h0 : 0 ≤ o) (h1 : o ≤ 65536) (h : inA i o n = true) : 4096 * 4294967296 ≤ n.toNat := by
  unfold inA at h
  generalize hy : n - BitVec.ofInt 64 o = y at h
  simp only [Bool.and_eq_true, decide_eq_true_eq, beq_iff_eq] at h
  obtain ⟨⟨_, hl⟩, hu⟩ := h
  rw [BitVec.le_def, ofInt_nat (by unfold area; omega) (by unfold area; omega), BitVec.toNat_ushiftRight, Nat.shiftRight_eq_div_pow] at hl
  rw [BitVec.le_def, ofInt_nat (by unfold area; omega) (by unfold area; omega), BitVec.toNat_ushiftRight, Nat.shiftRight_eq_div_pow] at hu
  have e : (2 : Nat) ^ 32 = 4294967296 := by decide
  rw [e] at hl hu
  have hn : n = y + BitVec.ofInt 64 o := by rw [← hy, BitVec.sub_add_cancel]
  have ho := ofInt_nat h0 (show o < 4294967296 by omega)
  have e' : (2 : Nat) ^ 64 = 18446744073709551616 := by decide
  rw [hn, BitVec.toNat_add, ho, e']
  unfold area at hl hu
  omega
/-- where a register's number lies, by its kind -/
def place (k : Int) (n : BitVec 64) : Prop := (k = 2 ∧ n.toNat / 4294967296 = 1) ∨ (k = 3 ∧ n.toNat / 4294967296 = 2) ∨ (k = 4 ∧ n.toNat / 4294967296 = 3) ∨ (k = 5 ∧ 4096 ≤ n.toNat / 4294967296)
theorem is_place {v : Vl} {n : BitVec 64} (h : is_ v n true = true) (h2 : ¬ v.k < 2) (h6 : ¬ v.k = 6) (h0 : ¬ v.off < 0) (h1 : ¬ v.off > 65536) : place v.k n := by
  have hr : right v = true := by
    cases e : right v
    · unfold is_ at h; rw [e] at h; cases h
    · rfl
  obtain ⟨b0, b1, _, _⟩ := right_bounds hr
  unfold is_ at h
  rw [hr] at h
  obtain e | e | e | e | e | e | e := right_kind hr
  · omega
  · omega
  · refine .inl ⟨e, ?_⟩
    rw [e] at h
    simp at h
    rw [h, at_nat (by omega) (by omega) (by omega) (by omega)]
    omega
  · refine .inr (.inl ⟨e, ?_⟩)
    rw [e] at h
    simp at h
    rw [h, at_nat (by omega) (by omega) (by omega) (by omega)]
    omega
  · refine .inr (.inr (.inl ⟨e, ?_⟩))
    rw [e] at h
    simp at h
    rw [h, at_nat (by omega) (by omega) (by omega) (by omega)]
    omega
  · refine .inr (.inr (.inr ⟨e, ?_⟩))
    rw [e] at h
    simp at h
    have := inA_nat b0 b1 (by omega) (by omega) h
    omega
  · omega
theorem kinds_no {a b : Vl} {n : BitVec 64} (ha : is_ a n true = true) (hb : is_ b n true = true) (hab : ¬ a.k = b.k) (a2 : ¬ a.k < 2) (b2 : ¬ b.k < 2) (a6 : ¬ a.k = 6) (b6 : ¬ b.k = 6)
    (o1 : ¬ a.off < 0) (o2 : ¬ b.off < 0) (o3 : ¬ a.off > 65536) (o4 : ¬ b.off > 65536) : False := by
  have h1 := is_place ha a2 a6 o1 o3
  have h2 := is_place hb b2 b6 o2 o4
  unfold place at h1 h2
  omega
end Vl
end Hk

namespace Hk
namespace Vl
theorem at_sub {a o : Int} {n : BitVec 64} : n = at_ a o ↔ n - BitVec.ofInt 64 o = BitVec.ofInt 64 a <<< 32 := by
  unfold at_
  constructor
  · rintro rfl; rw [BitVec.add_sub_cancel]
  · intro h; rw [← h, BitVec.sub_add_cancel]
theorem shl_shr {a : BitVec 64} (h : a.toNat < 4294967296) : (a <<< 32) >>> 32 = a := by
  apply BitVec.eq_of_toNat_eq
  rw [BitVec.toNat_ushiftRight, BitVec.toNat_shiftLeft, Nat.shiftRight_eq_div_pow, Nat.shiftLeft_eq]
  have e : (2 : Nat) ^ 32 = 4294967296 := by decide
  have e' : (2 : Nat) ^ 64 = 18446744073709551616 := by decide
  rw [e, e']
  omega
theorem inA_at {i o : Int} {n : BitVec 64} (hi : 0 ≤ i) (hi' : i < 8) : inA i o n = true ↔ ∃ s : Nat, s < 1024 ∧ n = at_ (area i s) o := by
  unfold inA
  simp only [at_sub]
  generalize n - BitVec.ofInt 64 o = y
  simp only [Bool.and_eq_true, decide_eq_true_eq, beq_iff_eq]
  have hl : (BitVec.ofInt 64 (area i 0)).toNat = (area i 0).toNat := ofInt_nat (by unfold area; omega) (by unfold area; omega)
  have hu : (BitVec.ofInt 64 (area i 1023)).toNat = (area i 1023).toNat := ofInt_nat (by unfold area; omega) (by unfold area; omega)
  constructor
  · rintro ⟨⟨h1, h2⟩, h3⟩
    rw [BitVec.le_def, hl] at h2
    rw [BitVec.le_def, hu] at h3
    unfold area at h2 h3
    refine ⟨(y >>> 32).toNat - (4096 + 1024 * i).toNat, by omega, ?_⟩
    have e : BitVec.ofInt 64 (area i (((y >>> 32).toNat - (4096 + 1024 * i).toNat : Nat) : Int)) = y >>> 32 := by
      apply BitVec.eq_of_toNat_eq
      rw [ofInt_nat (by unfold area; omega) (by unfold area; omega)]
      unfold area; omega
    rw [e]; exact h1
  · rintro ⟨s, hs, rfl⟩
    have e := ofInt_nat (show (0 : Int) ≤ area i s by unfold area; omega) (show area i s < 4294967296 by unfold area; omega)
    rw [shl_shr (by rw [e]; unfold area; omega)]
    refine ⟨⟨rfl, ?_⟩, ?_⟩
    · rw [BitVec.le_def, hl, e]; unfold area; omega
    · rw [BitVec.le_def, hu, e]; unfold area; omega
end Vl
end Hk

