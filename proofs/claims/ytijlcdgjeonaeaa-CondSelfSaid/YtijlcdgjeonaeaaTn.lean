/- Plain laws of tnum; no program in sight. No condition but those in each statement. -/
namespace Hk

/-- the bit i of a word -/
def bt (x : BitVec 64) (i : Nat) : Bool := x.getLsbD i
theorem bt_and (x y : BitVec 64) (i : Nat) : bt (x &&& y) i = (bt x i && bt y i) := by simp [bt, -BitVec.getLsbD_eq_getElem]
theorem bt_or (x y : BitVec 64) (i : Nat) : bt (x ||| y) i = (bt x i || bt y i) := by simp [bt, -BitVec.getLsbD_eq_getElem]
theorem bt_xor (x y : BitVec 64) (i : Nat) : bt (x ^^^ y) i = (bt x i ^^ bt y i) := by simp [bt, -BitVec.getLsbD_eq_getElem]
theorem bt_not (x : BitVec 64) (i : Nat) (hi : i < 64) : bt (~~~x) i = !bt x i := by simp only [bt, BitVec.getLsbD_not, hi, decide_true, Bool.true_and]
theorem bt_zero (i : Nat) : bt 0#64 i = false := by simp [bt]
theorem bt_shl (x : BitVec 64) (n i : Nat) (hi : i < 64) : bt (x <<< n) i = (!decide (i < n) && bt x (i - n)) := by
  simp only [bt, BitVec.getLsbD_shiftLeft, hi, decide_true, Bool.true_and]
theorem bt_shr (x : BitVec 64) (n i : Nat) : bt (x >>> n) i = bt x (n + i) := by simp only [bt, BitVec.getLsbD_ushiftRight]
theorem bt_ext {x y : BitVec 64} (h : ∀ i, i < 64 → bt x i = bt y i) : x = y := BitVec.eq_of_getLsbD_eq h
theorem bt_ge (x : BitVec 64) (i : Nat) (hi : ¬ i < 64) : bt x i = false := BitVec.getLsbD_of_ge _ _ (by omega)
theorem bt_lt {x : BitVec 64} {i : Nat} (h : bt x i = true) : i < 64 := by
  apply Classical.byContradiction; intro hc; rw [bt_ge _ _ hc] at h; simp at h
theorem bt_congr {x y : BitVec 64} (h : x = y) (i : Nat) : bt x i = bt y i := by rw [h]
theorem eq_iff_bt {x y : BitVec 64} : x = y ↔ ∀ i, i < 64 → bt x i = bt y i := ⟨fun h i _ => bt_congr h i, bt_ext⟩
theorem carry_mono (i : Nat) (x y x' y' : BitVec 64) (c : Bool) (hx : ∀ j, bt x j = true → bt x' j = true) (hy : ∀ j, bt y j = true → bt y' j = true) :
    BitVec.carry i x y c = true → BitVec.carry i x' y' c = true := by
  induction i with
  | zero => simp only [BitVec.carry_zero]; exact id
  | succ i ih =>
    rw [BitVec.carry_succ, BitVec.carry_succ]
    unfold Bool.atLeastTwo
    have h1 := hx i
    have h2 := hy i
    unfold bt at h1 h2
    cases hxi : x.getLsbD i <;> cases hyi : y.getLsbD i <;> cases hc : BitVec.carry i x y c <;> simp_all
theorem bt_add (x y : BitVec 64) (i : Nat) (hi : i < 64) : bt (x + y) i = (bt x i ^^ (bt y i ^^ BitVec.carry i x y false)) := BitVec.getLsbD_add hi x y
theorem bt_sub (x y : BitVec 64) (i : Nat) (hi : i < 64) : bt (x - y) i = (bt x i ^^ ((!bt y i) ^^ BitVec.carry i x (~~~y) true)) := by
  have : x - y = x + ~~~y + BitVec.setWidth 64 (BitVec.ofBool true) := by
    rw [BitVec.sub_eq_add_neg, BitVec.neg_eq_not_add, ← BitVec.add_assoc]; rfl
  rw [← bt_not _ _ hi, this]
  exact BitVec.getLsbD_add_add_bool hi x (~~~y) true

/-- a bit, as the program asks for the lowest one -/
theorem bit_and1 (x : BitVec 64) (k : Nat) : (x >>> k &&& 1#64 == 1#64) = bt x k := by
  have e : (x >>> k &&& 1#64) = if bt x k then 1#64 else 0#64 := by
    apply bt_ext; intro i hi
    rw [bt_and, bt_shr]
    have h1 : bt 1#64 i = decide (i = 0) := by simp [bt, BitVec.getLsbD_one]
    rw [h1]
    by_cases h : i = 0
    · subst h; simp; cases bt x k <;> simp [bt]
    · simp [h]; cases bt x k
      · simp [bt]
      · simp [h1, h]
  rw [e]; cases bt x k <;> rfl
theorem mod2 (x : BitVec 64) : x % 2#64 = x &&& 1#64 := by
  apply BitVec.eq_of_toNat_eq
  rw [BitVec.toNat_umod, BitVec.toNat_and]
  show x.toNat % 2 = x.toNat &&& (2 ^ 1 - 1)
  rw [Nat.and_two_pow_sub_one_eq_mod]
theorem bit_mod (x : BitVec 64) (k : Nat) : (x >>> k % 2#64 == 1#64) = bt x k := by rw [mod2, bit_and1]
theorem bt_one (k i : Nat) (hi : i < 64) : bt (1#64 <<< k) i = decide (i = k) := by
  rw [bt_shl _ _ _ hi]
  have h1 : ∀ j, bt 1#64 j = decide (j = 0) := by intro j; simp [bt, BitVec.getLsbD_one]
  rw [h1, Bool.eq_iff_iff]; simp; omega
/-- the bits below k, put together one by one -/
def upTo (x : BitVec 64) : Nat → BitVec 64
  | 0 => 0#64
  | k + 1 => if bt x k then upTo x k + 1#64 <<< k else upTo x k
theorem upTo_lt (x : BitVec 64) (k : Nat) (hk : k ≤ 64) : (upTo x k).toNat < 2 ^ k := by
  induction k with
  | zero => simp [upTo]
  | succ k ih =>
    have ih := ih (by omega)
    have h2 : 2 ^ (k + 1) = 2 ^ k + 2 ^ k := by rw [Nat.pow_succ]; omega
    have h3 : (2 : Nat) ^ (k + 1) ≤ 2 ^ 64 := Nat.pow_le_pow_right (by omega) hk
    unfold upTo
    split
    · have e : (1#64 <<< k).toNat = 2 ^ k := by
        rw [BitVec.toNat_shiftLeft, Nat.shiftLeft_eq]
        show 1 * 2 ^ k % 2 ^ 64 = 2 ^ k
        rw [Nat.one_mul, Nat.mod_eq_of_lt (by omega)]
      rw [BitVec.toNat_add, e, Nat.mod_eq_of_lt (by omega)]
      omega
    · omega
theorem bt_upTo (x : BitVec 64) (k i : Nat) (hk : k ≤ 64) (hi : i < 64) : bt (upTo x k) i = (decide (i < k) && bt x i) := by
  induction k with
  | zero => simp [upTo, bt_zero]
  | succ k ih =>
    have ih := ih (by omega)
    unfold upTo
    cases h : bt x k
    · simp only [Bool.false_eq_true, if_false]
      rw [ih, Bool.eq_iff_iff]; simp
      intro hx
      have : i ≠ k := fun e => by rw [e, h] at hx; cases hx
      omega
    · simp only [if_true]
      have hd : upTo x k &&& 1#64 <<< k = 0#64 := by
        apply bt_ext; intro j hj
        rw [bt_and, bt_zero, bt_one _ _ hj]
        by_cases e : j = k
        · subst e
          have : bt (upTo x j) j = false := Nat.testBit_lt_two_pow (upTo_lt x j (by omega))
          rw [this]; rfl
        · simp [e]
      rw [BitVec.add_eq_or_of_and_eq_zero _ _ hd, bt_or, ih, bt_one _ _ hi, Bool.eq_iff_iff]
      simp
      constructor
      · rintro (⟨h1, h2⟩ | rfl)
        · exact ⟨by omega, h2⟩
        · exact ⟨by omega, h⟩
      · rintro ⟨h1, h2⟩
        by_cases e : i = k
        · exact .inr e
        · exact .inl ⟨by omega, h2⟩
theorem upTo_all (x : BitVec 64) : upTo x 64 = x := bt_ext fun i hi => by rw [bt_upTo _ _ _ (by omega) hi]; simp [hi]
structure Tn where
  v : BitVec 64
  m : BitVec 64
deriving DecidableEq

namespace Tn
theorem eta (t : Tn) : (⟨t.v, t.m⟩ : Tn) = t := rfl
def right (t : Tn) : Bool := t.v &&& t.m == 0#64
def made (v m : BitVec 64) : Tn := ⟨v &&& ~~~m, m⟩
def has (t : Tn) (n : BitVec 64) : Bool := t.right && (n &&& ~~~t.m == t.v)
def within (a b : Tn) : Bool := a.right && b.right && (a.m &&& ~~~b.m == 0#64) && (a.v &&& ~~~b.m == b.v)
def join (a b : Tn) : Tn := if a.right && b.right then made a.v (a.m ||| b.m ||| (a.v ^^^ b.v)) else ⟨0, 0⟩
def meetOk (a b : Tn) : Bool := a.right && b.right && ((a.v ^^^ b.v) &&& ~~~(a.m ||| b.m) == 0#64)
def meet (a b : Tn) : Tn := if meetOk a b then made (a.v ||| b.v) (a.m &&& b.m) else ⟨0, 0⟩
def add (a b : Tn) : Tn := made (a.v + b.v) (((a.v + b.v + a.m + b.m) ^^^ (a.v + b.v)) ||| a.m ||| b.m)
def sub (a b : Tn) : Tn := made (a.v - b.v) (((a.v - b.v + a.m) ^^^ (a.v - b.v - b.m)) ||| a.m ||| b.m)
def mulTo (a b : Tn) : Nat → Tn
  | 0 => ⟨0, 0⟩
  | k + 1 =>
    if bt b.v k then add (mulTo a b k) ⟨a.v <<< k, a.m <<< k⟩
    else if bt b.m k then add (mulTo a b k) ⟨0, (a.v ||| a.m) <<< k⟩
    else mulTo a b k
def mul (a b : Tn) : Tn := mulTo a b 64
def and (a b : Tn) : Tn := ⟨a.v &&& b.v, (a.v ||| a.m) &&& (b.v ||| b.m) &&& ~~~(a.v &&& b.v)⟩
def or (a b : Tn) : Tn := ⟨a.v ||| b.v, (a.m ||| b.m) &&& ~~~(a.v ||| b.v)⟩
def xor (a b : Tn) : Tn := made (a.v ^^^ b.v) (a.m ||| b.m)

theorem right_iff (t : Tn) : t.right = true ↔ ∀ i : Nat, i < 64 → (bt t.v i && bt t.m i) = false := by
  unfold right
  rw [beq_iff_eq, eq_iff_bt]
  simp only [bt_and, bt_zero]

theorem has_iff (t : Tn) (n : BitVec 64) : t.has n = true ↔ (∀ i : Nat, i < 64 → bt t.v i = (bt n i && !bt t.m i)) := by
  unfold has
  rw [Bool.and_eq_true, right_iff, beq_iff_eq, eq_iff_bt]
  constructor
  · rintro ⟨h1, h2⟩ i hi
    rw [← h2 i hi, bt_and, bt_not _ _ hi]
  · intro h
    refine ⟨fun i hi => ?_, fun i hi => ?_⟩
    · rw [h i hi]; cases bt t.m i <;> simp
    · rw [h i hi, bt_and, bt_not _ _ hi]

theorem has_made (v m z : BitVec 64) : (made v m).has z = true ↔ ∀ i : Nat, i < 64 → bt m i = false → bt z i = bt v i := by
  rw [has_iff]
  unfold made
  constructor
  · intro h i hi hm
    have := h i hi
    rw [bt_and, bt_not _ _ hi, hm] at this
    simpa using this.symm
  · intro h i hi
    have := h i hi
    rw [bt_and, bt_not _ _ hi]
    cases hm : bt m i
    · rw [this hm]
    · simp

theorem right_made (v m : BitVec 64) : (made v m).right = true := by
  rw [right_iff]; unfold made; intro i hi
  simp only [bt_and, bt_not _ _ hi]; cases bt v i <;> cases bt m i <;> rfl

/-- what x may be, bit by bit -/
theorem has_lo {t : Tn} {n : BitVec 64} (h : t.has n = true) (i : Nat) : bt t.v i = true → bt n i = true := by
  intro hv
  have hi := bt_lt hv
  have := (has_iff t n).1 h i hi
  rw [hv] at this
  cases hn : bt n i
  · rw [hn] at this; cases this
  · rfl
theorem has_hi {t : Tn} {n : BitVec 64} (h : t.has n = true) (i : Nat) : bt n i = true → bt (t.v ||| t.m) i = true := by
  intro hn
  have hi := bt_lt hn
  have := (has_iff t n).1 h i hi
  rw [hn] at this
  rw [bt_or]
  cases hv : bt t.m i <;> simp_all
theorem has_right {t : Tn} {n : BitVec 64} (h : t.has n = true) : t.right = true := by
  unfold has at h; rw [Bool.and_eq_true] at h; exact h.1
theorem or_eq_add {t : Tn} (h : t.right = true) : t.v ||| t.m = t.v + t.m := by
  unfold right at h; rw [beq_iff_eq] at h
  exact (BitVec.add_eq_or_of_and_eq_zero _ _ h).symm

theorem add_sound (a b : Tn) (x y : BitVec 64) (ha : a.has x = true) (hb : b.has y = true) : (add a b).has (x + y) = true := by
  unfold add
  rw [has_made]
  intro i hi hm
  have ra := has_right ha
  have rb := has_right hb
  have e : a.v + b.v + a.m + b.m = (a.v ||| a.m) + (b.v ||| b.m) := by
    rw [or_eq_add ra, or_eq_add rb]; ac_rfl
  rw [e] at hm
  simp only [bt_or, bt_xor, Bool.or_eq_false_iff] at hm
  obtain ⟨⟨hm1, hma⟩, hmb⟩ := hm
  rw [bt_add _ _ _ hi, bt_add _ _ _ hi] at hm1 ⊢
  have c1 := carry_mono i a.v b.v x y false (has_lo ha) (has_lo hb)
  have c2 := carry_mono i x y (a.v ||| a.m) (b.v ||| b.m) false (has_hi ha) (has_hi hb)
  have hx := (has_iff a x).1 ha i hi
  have hy := (has_iff b y).1 hb i hi
  simp only [bt_or] at hm1
  rw [hma] at hx hm1
  rw [hmb] at hy hm1
  cases h1 : BitVec.carry i a.v b.v false <;> cases h2 : BitVec.carry i x y false <;> cases h3 : BitVec.carry i (a.v ||| a.m) (b.v ||| b.m) false <;> simp_all

theorem sub_sound (a b : Tn) (x y : BitVec 64) (ha : a.has x = true) (hb : b.has y = true) : (sub a b).has (x - y) = true := by
  unfold sub
  rw [has_made]
  intro i hi hm
  have ra := has_right ha
  have rb := has_right hb
  have e1 : a.v - b.v + a.m = (a.v ||| a.m) - b.v := by
    rw [or_eq_add ra]; simp only [BitVec.sub_eq_add_neg]; ac_rfl
  have e2 : a.v - b.v - b.m = a.v - (b.v ||| b.m) := by
    rw [or_eq_add rb]; simp only [BitVec.sub_eq_add_neg, BitVec.neg_add]; ac_rfl
  rw [e1, e2] at hm
  simp only [bt_or, bt_xor, Bool.or_eq_false_iff] at hm
  obtain ⟨⟨hm1, hma⟩, hmb⟩ := hm
  rw [bt_sub _ _ _ hi, bt_sub _ _ _ hi] at hm1
  rw [bt_sub _ _ _ hi, bt_sub _ _ _ hi]
  have nlo : ∀ j, bt (~~~(b.v ||| b.m)) j = true → bt (~~~y) j = true := by
    intro j hj
    have h1 := has_hi hb j
    have hj' := bt_lt hj
    rw [bt_not _ _ hj'] at hj ⊢
    cases hy : bt y j
    · rfl
    · rw [h1 hy] at hj; exact hj
  have nhi : ∀ j, bt (~~~y) j = true → bt (~~~b.v) j = true := by
    intro j hj
    have h1 := has_lo hb j
    have hj' := bt_lt hj
    rw [bt_not _ _ hj'] at hj ⊢
    cases hy : bt b.v j
    · rfl
    · rw [h1 hy] at hj; exact hj
  have c1 := carry_mono i a.v (~~~(b.v ||| b.m)) x (~~~y) true (has_lo ha) nlo
  have c2 := carry_mono i x (~~~y) (a.v ||| a.m) (~~~b.v) true (has_hi ha) nhi
  have c3 := carry_mono i a.v (~~~(b.v ||| b.m)) a.v (~~~b.v) true (fun _ h => h) (fun j h => nhi j (nlo j h))
  have c4 := carry_mono i a.v (~~~b.v) (a.v ||| a.m) (~~~b.v) true (fun j h => by rw [bt_or, h]; rfl) (fun _ h => h)
  have hx := (has_iff a x).1 ha i hi
  have hy := (has_iff b y).1 hb i hi
  simp only [bt_or] at hm1
  rw [hma] at hx hm1
  rw [hmb] at hy hm1
  cases h1 : BitVec.carry i a.v (~~~(b.v ||| b.m)) true <;> cases h2 : BitVec.carry i x (~~~y) true <;> cases h3 : BitVec.carry i (a.v ||| a.m) (~~~b.v) true <;> cases h4 : BitVec.carry i a.v (~~~b.v) true <;> simp_all

theorem has_shl (a : Tn) (x : BitVec 64) (n : Nat) (h : a.has x = true) : (Tn.mk (a.v <<< n) (a.m <<< n)).has (x <<< n) = true := by
  rw [has_iff] at h ⊢
  intro i hi
  have := h (i - n) (by omega)
  simp only [bt_shl _ _ _ hi]
  rw [this]
  cases decide (i < n) <;> simp
theorem has_shr (a : Tn) (x : BitVec 64) (n : Nat) (h : a.has x = true) : (Tn.mk (a.v >>> n) (a.m >>> n)).has (x >>> n) = true := by
  rw [has_iff] at h ⊢
  intro i hi
  simp only [bt_shr]
  by_cases hj : n + i < 64
  · rw [h _ hj]
  · rw [bt_ge a.v _ hj, bt_ge x _ hj]; simp

theorem mulTo_sound (a b : Tn) (x y : BitVec 64) (ha : a.has x = true) (hb : b.has y = true) (k : Nat) (hk : k < 64) :
    (mulTo a b (k + 1)).has (BitVec.mulRec x y k) = true := by
  have step : ∀ (k : Nat) (_ : k < 64) (t : Tn) (z : BitVec 64), t.has z = true →
      (if bt b.v k then add t ⟨a.v <<< k, a.m <<< k⟩ else if bt b.m k then add t ⟨0, (a.v ||| a.m) <<< k⟩ else t).has
        (z + if bt y k then x <<< k else 0#64) = true := by
    intro k hk t z ht
    have hy := (has_iff b y).1 hb k hk
    cases hv : bt b.v k
    · cases hm : bt b.m k
      · rw [hv, hm] at hy
        have : bt y k = false := by simpa using hy.symm
        simp [this, ht]
      · simp only [Bool.false_eq_true, if_false, if_true]
        refine add_sound _ _ _ _ ht ?_
        have h1 := has_shl a x k ha
        rw [has_iff] at h1 ⊢
        intro i hi
        have := h1 i hi
        simp only [bt_shl _ _ _ hi, bt_or] at this ⊢
        cases hyk : bt y k
        · simp [bt_zero]
        · simp only [if_true, bt_shl _ _ _ hi]
          have hxi := has_hi ha (i - k)
          show bt 0#64 i = _
          rw [bt_zero]
          cases hxx : bt x (i - k)
          · simp
          · have := hxi hxx
            rw [bt_or] at this
            rw [this]
            cases decide (i < k) <;> rfl
    · rw [hv] at hy
      have : bt y k = true := by
        cases hyk : bt y k
        · rw [hyk] at hy; cases hy
        · rfl
      simp only [this, if_true]
      exact add_sound _ _ _ _ ht (has_shl a x k ha)
  induction k with
  | zero =>
    have h0 : (⟨0, 0⟩ : Tn).has 0 = true := by decide
    have := step 0 (by omega) _ _ h0
    rw [BitVec.mulRec_zero_eq]
    simpa [mulTo, bt] using this
  | succ k ih =>
    have := step (k + 1) hk _ _ (ih (by omega))
    rw [BitVec.mulRec_succ_eq]
    exact this

theorem mulRec_all (x y : BitVec 64) : BitVec.mulRec x y 63 = x * y := by
  rw [BitVec.mulRec_eq_mul_signExtend_setWidth]
  simp
theorem mul_sound (a b : Tn) (x y : BitVec 64) (ha : a.has x = true) (hb : b.has y = true) : (mul a b).has (x * y) = true := by
  rw [← mulRec_all]; exact mulTo_sound a b x y ha hb 63 (by omega)

theorem and_sound (a b : Tn) (x y : BitVec 64) (ha : a.has x = true) (hb : b.has y = true) : (and a b).has (x &&& y) = true := by
  rw [has_iff] at *
  intro i hi
  unfold and
  have h1 := ha i hi
  have h2 := hb i hi
  simp only [bt_and, bt_or, bt_not _ _ hi, h1, h2]
  cases bt x i <;> cases bt y i <;> cases bt a.m i <;> cases bt b.m i <;> rfl
theorem or_sound (a b : Tn) (x y : BitVec 64) (ha : a.has x = true) (hb : b.has y = true) : (or a b).has (x ||| y) = true := by
  rw [has_iff] at *
  intro i hi
  unfold or
  have h1 := ha i hi
  have h2 := hb i hi
  simp only [bt_and, bt_or, bt_not _ _ hi, h1, h2]
  cases bt x i <;> cases bt y i <;> cases bt a.m i <;> cases bt b.m i <;> rfl
theorem xor_sound (a b : Tn) (x y : BitVec 64) (ha : a.has x = true) (hb : b.has y = true) : (xor a b).has (x ^^^ y) = true := by
  unfold xor
  rw [has_made]
  rw [has_iff] at *
  intro i hi hm
  have h1 := ha i hi
  have h2 := hb i hi
  simp only [bt_or, Bool.or_eq_false_iff] at hm
  rw [hm.1] at h1
  rw [hm.2] at h2
  simp only [bt_xor, h1, h2]; simp

theorem within_iff (a b : Tn) : a.within b = true ↔ a.right = true ∧ b.right = true ∧ ∀ i : Nat, i < 64 → bt b.m i = false → bt a.m i = false ∧ bt a.v i = bt b.v i := by
  unfold within
  simp only [Bool.and_eq_true, beq_iff_eq, eq_iff_bt]
  constructor
  · rintro ⟨⟨⟨ha, hb⟩, h1⟩, h2⟩
    refine ⟨ha, hb, fun i hi hm => ?_⟩
    have h1 := h1 i hi
    have h2 := h2 i hi
    rw [bt_and, bt_not _ _ hi, hm] at h1 h2
    rw [bt_zero] at h1
    exact ⟨by simpa using h1, by simpa using h2⟩
  · rintro ⟨ha, hb, h⟩
    refine ⟨⟨⟨ha, hb⟩, fun i hi => ?_⟩, fun i hi => ?_⟩
    · rw [bt_and, bt_not _ _ hi, bt_zero]
      cases hm : bt b.m i
      · rw [(h i hi hm).1]; rfl
      · simp
    · rw [bt_and, bt_not _ _ hi]
      cases hm : bt b.m i
      · rw [(h i hi hm).2]; simp
      · have := (right_iff b).1 hb i hi
        rw [hm] at this
        simp at this
        rw [this]; simp

theorem join_m {a b : Tn} (ha : a.right = true) (hb : b.right = true) (i : Nat) : bt (join a b).m i = (bt a.m i || bt b.m i || (bt a.v i ^^ bt b.v i)) := by
  unfold join; rw [ha, hb]; simp only [Bool.and_self, if_true, made, bt_or, bt_xor]
theorem join_v {a b : Tn} (ha : a.right = true) (hb : b.right = true) (i : Nat) (hi : i < 64) : bt (join a b).v i = (bt a.v i && !(bt a.m i || bt b.m i || (bt a.v i ^^ bt b.v i))) := by
  unfold join; rw [ha, hb]; simp only [Bool.and_self, if_true, made, bt_and, bt_not _ _ hi, bt_or, bt_xor]
theorem right_join {a b : Tn} (ha : a.right = true) (hb : b.right = true) : (join a b).right = true := by
  unfold join; rw [ha, hb]; exact right_made _ _
theorem tn_ext {a b : Tn} (h1 : ∀ i, i < 64 → bt a.v i = bt b.v i) (h2 : ∀ i, i < 64 → bt a.m i = bt b.m i) : a = b := by
  cases a; cases b; simp only [Tn.mk.injEq]; exact ⟨bt_ext h1, bt_ext h2⟩
theorem right_bit {a : Tn} (ha : a.right = true) (i : Nat) (hi : i < 64) : bt a.m i = true → bt a.v i = false := by
  intro h
  have := (right_iff a).1 ha i hi
  rw [h] at this; simpa using this
theorem has_within {a b : Tn} {x : BitVec 64} (h : a.within b = true) (hx : a.has x = true) : b.has x = true := by
  rw [within_iff] at h
  obtain ⟨_, hb, h⟩ := h
  rw [has_iff] at hx ⊢
  intro i hi
  have h1 := h i hi
  have h2 := hx i hi
  have h3 := right_bit hb i hi
  cases hm : bt b.m i
  · have ⟨h4, h5⟩ := h1 hm
    rw [← h5, h2, h4]
  · rw [h3 hm]; simp
theorem within_join_l {a b : Tn} (ha : a.right = true) (hb : b.right = true) : a.within (join a b) = true := by
  rw [within_iff]
  refine ⟨ha, right_join ha hb, fun i hi hm => ?_⟩
  rw [join_v ha hb i hi]
  rw [join_m ha hb] at hm
  simp only [Bool.or_eq_false_iff] at hm
  obtain ⟨⟨h1, h2⟩, h3⟩ := hm
  rw [h1, h2, h3]; simp
theorem join_comm (a b : Tn) : join b a = join a b := by
  cases ha : a.right
  · unfold join; rw [ha]; simp
  · cases hb : b.right
    · unfold join; rw [hb]; simp
    · refine tn_ext (fun i hi => ?_) (fun i hi => ?_)
      · rw [join_v ha hb i hi, join_v hb ha i hi]
        cases bt a.v i <;> cases bt b.v i <;> cases bt a.m i <;> cases bt b.m i <;> rfl
      · rw [join_m ha hb, join_m hb ha]
        cases bt a.v i <;> cases bt b.v i <;> cases bt a.m i <;> cases bt b.m i <;> rfl
theorem within_join_r {a b : Tn} (ha : a.right = true) (hb : b.right = true) : b.within (join a b) = true := by
  rw [← join_comm]; exact within_join_l hb ha
theorem within_trans {a b c : Tn} (h1 : a.within b = true) (h2 : b.within c = true) : a.within c = true := by
  rw [within_iff] at *
  refine ⟨h1.1, h2.2.1, fun i hi hm => ?_⟩
  have ⟨h3, h4⟩ := h2.2.2 i hi hm
  have ⟨h5, h6⟩ := h1.2.2 i hi h3
  exact ⟨h5, by rw [h6, h4]⟩
theorem within_refl {a : Tn} (ha : a.right = true) : a.within a = true := by
  rw [within_iff]; exact ⟨ha, ha, fun _ _ h => ⟨h, rfl⟩⟩
theorem within_join {a b c : Tn} (ha : a.right = true) (hb : b.right = true) : (join a b).within c = (a.within c && b.within c) := by
  rw [Bool.eq_iff_iff, Bool.and_eq_true]
  constructor
  · intro h
    exact ⟨within_trans (within_join_l ha hb) h, within_trans (within_join_r ha hb) h⟩
  · rintro ⟨h1, h2⟩
    rw [within_iff] at *
    refine ⟨right_join ha hb, h1.2.1, fun i hi hm => ?_⟩
    have ⟨h3, h4⟩ := h1.2.2 i hi hm
    have ⟨h5, h6⟩ := h2.2.2 i hi hm
    rw [join_m ha hb, join_v ha hb i hi, h3, h5, h4, h6]
    simp
theorem join_self {a : Tn} (ha : a.right = true) : join a a = a := by
  refine tn_ext (fun i hi => ?_) (fun i hi => ?_)
  · rw [join_v ha ha i hi]
    have := right_bit ha i hi
    cases hm : bt a.m i
    · simp
    · rw [this hm]; simp
  · rw [join_m ha ha]; simp

theorem meetOk_iff (a b : Tn) : meetOk a b = true ↔ a.right = true ∧ b.right = true ∧ ∀ i, i < 64 → bt a.m i = false → bt b.m i = false → bt a.v i = bt b.v i := by
  unfold meetOk
  simp only [Bool.and_eq_true, beq_iff_eq, eq_iff_bt, and_assoc]
  refine and_congr Iff.rfl (and_congr Iff.rfl (forall_congr' fun i => ?_))
  refine forall_congr' fun hi => ?_
  rw [bt_and, bt_not _ _ hi, bt_or, bt_xor, bt_zero]
  cases bt a.v i <;> cases bt b.v i <;> cases bt a.m i <;> cases bt b.m i <;> simp
theorem meet_m {a b : Tn} (h : meetOk a b = true) (i : Nat) : bt (meet a b).m i = (bt a.m i && bt b.m i) := by
  unfold meet; rw [if_pos h]; simp only [made, bt_and]
theorem meet_v {a b : Tn} (h : meetOk a b = true) (i : Nat) (hi : i < 64) : bt (meet a b).v i = (bt a.v i || bt b.v i) := by
  unfold meet; rw [if_pos h]; simp only [made, bt_and, bt_or, bt_not _ _ hi]
  rw [meetOk_iff] at h
  have h1 := right_bit h.1 i hi
  have h2 := right_bit h.2.1 i hi
  cases hm : bt a.m i
  · simp
  · cases hn : bt b.m i
    · simp
    · rw [h1 hm, h2 hn]; rfl
theorem right_meet {a b : Tn} (h : meetOk a b = true) : (meet a b).right = true := by
  unfold meet; rw [if_pos h]; exact right_made _ _
theorem meet_has (a b : Tn) (o : BitVec 64) : (a.has o && b.has o) = (meetOk a b && (meet a b).has o) := by
  rw [Bool.eq_iff_iff, Bool.and_eq_true, Bool.and_eq_true]
  constructor
  · rintro ⟨h1, h2⟩
    have ok : meetOk a b = true := by
      rw [meetOk_iff]
      refine ⟨has_right h1, has_right h2, fun i hi ha hb => ?_⟩
      rw [(has_iff _ _).1 h1 i hi, (has_iff _ _).1 h2 i hi, ha, hb]
    refine ⟨ok, ?_⟩
    rw [has_iff]
    intro i hi
    rw [meet_v ok i hi, meet_m ok i, (has_iff _ _).1 h1 i hi, (has_iff _ _).1 h2 i hi]
    cases bt o i <;> cases bt a.m i <;> cases bt b.m i <;> rfl
  · rintro ⟨ok, h⟩
    rw [has_iff] at h
    have ok' := (meetOk_iff a b).1 ok
    constructor
    · rw [has_iff]
      intro i hi
      have := h i hi
      rw [meet_v ok i hi, meet_m ok i] at this
      have h3 := ok'.2.2 i hi
      have h4 := right_bit ok'.1 i hi
      have h5 := right_bit ok'.2.1 i hi
      revert this h3 h4 h5
      cases bt o i <;> cases bt a.m i <;> cases bt b.m i <;> cases bt a.v i <;> cases bt b.v i <;> decide
    · rw [has_iff]
      intro i hi
      have := h i hi
      rw [meet_v ok i hi, meet_m ok i] at this
      have h3 := ok'.2.2 i hi
      have h4 := right_bit ok'.1 i hi
      have h5 := right_bit ok'.2.1 i hi
      revert this h3 h4 h5
      cases bt o i <;> cases bt a.m i <;> cases bt b.m i <;> cases bt a.v i <;> cases bt b.v i <;> decide
theorem meet_within_l {a b : Tn} (ok : meetOk a b = true) : (meet a b).within a = true := by
  have ok' := (meetOk_iff a b).1 ok
  rw [within_iff]
  refine ⟨right_meet ok, ok'.1, fun i hi hm => ?_⟩
  rw [meet_v ok i hi, meet_m ok i, hm]
  refine ⟨rfl, ?_⟩
  have h3 := ok'.2.2 i hi hm
  have h5 := right_bit ok'.2.1 i hi
  revert h3 h5
  cases bt b.m i <;> cases bt a.v i <;> cases bt b.v i <;> decide
theorem meetOk_comm (a b : Tn) : meetOk a b = meetOk b a := by
  rw [Bool.eq_iff_iff, meetOk_iff, meetOk_iff]
  exact ⟨fun h => ⟨h.2.1, h.1, fun i hi h1 h2 => (h.2.2 i hi h2 h1).symm⟩, fun h => ⟨h.2.1, h.1, fun i hi h1 h2 => (h.2.2 i hi h2 h1).symm⟩⟩
theorem meet_comm (a b : Tn) : meet a b = meet b a := by
  unfold meet; rw [meetOk_comm]; rw [BitVec.or_comm, BitVec.and_comm]
theorem meet_within_r {a b : Tn} (ok : meetOk a b = true) : (meet a b).within b = true := by
  rw [meet_comm]; exact meet_within_l (by rw [meetOk_comm]; exact ok)
theorem meetOk_self {a : Tn} (ha : a.right = true) : meetOk a a = true := by
  rw [meetOk_iff]; exact ⟨ha, ha, fun _ _ _ _ => rfl⟩
theorem meet_self {a : Tn} (ha : a.right = true) : meet a a = a := by
  refine tn_ext (fun i hi => ?_) (fun i hi => ?_)
  · rw [meet_v (meetOk_self ha) i hi]; simp
  · rw [meet_m (meetOk_self ha) i]; simp

/-- a number that is known -/
def of (n : BitVec 64) : Tn := ⟨n, 0⟩
theorem right_of (n : BitVec 64) : (of n).right = true := by unfold right of; simp
theorem within_of (o : BitVec 64) (t : Tn) : (of o).within t = t.has o := by
  rw [Bool.eq_iff_iff, within_iff]
  constructor
  · rintro ⟨_, h2, h⟩
    rw [has_iff]
    intro i hi
    have := h i hi
    have h5 := right_bit h2 i hi
    cases hm : bt t.m i
    · rw [← (this hm).2]; simp [of]
    · rw [h5 hm]; simp
  · intro h
    refine ⟨right_of o, has_right h, fun i hi hm => ⟨bt_zero i, ?_⟩⟩
    have := (has_iff _ _).1 h i hi
    rw [hm] at this
    rw [this]; simp [of]

/-- the number that the statements make -/
def num (v m n : BitVec 64) : BitVec 64 := (v &&& ~~~m) ||| (n &&& m)
theorem has_num (v m n : BitVec 64) : (made v m).has (num v m n) = true := by
  rw [has_made]
  intro i hi hm
  unfold num
  rw [bt_or, bt_and, bt_and, bt_not _ _ hi, hm]; simp

/-- the lowest bits -/
def low (w : Nat) : BitVec 64 := 1#64 <<< w - 1#64
def cut (t : Tn) (w : Nat) : Tn := ⟨t.v &&& low w, t.m &&& low w⟩
theorem has_cut {t : Tn} {x : BitVec 64} (h : t.has x = true) (w : Nat) : (cut t w).has (x &&& low w) = true := by
  rw [has_iff] at *
  intro i hi
  unfold cut
  simp only [bt_and, h i hi]
  cases bt x i <;> cases bt t.m i <;> cases bt (low w) i <;> rfl
/-- the lowest bits, of any width -/
def cutI (t : Tn) (k : Int) : Tn := if t.right then (if 1 ≤ k ∧ k ≤ 63 then cut t k.toNat else t) else ⟨0, 0⟩
theorem cutI_in {t : Tn} {k : Int} (h : t.right = true) (h0 : 1 ≤ k) (h1 : k ≤ 63) : cutI t k = cut t k.toNat := by unfold cutI; rw [if_pos h, if_pos ⟨h0, h1⟩]
theorem cutI_out {t : Tn} {k : Int} (h : t.right = true) (h0 : k < 1 ∨ 63 < k) : cutI t k = t := by unfold cutI; rw [if_pos h, if_neg (by omega)]
theorem cutI_no {t : Tn} {k : Int} (h : t.right = false) : cutI t k = ⟨0, 0⟩ := by unfold cutI; rw [h]; rfl
theorem cut_of (n : BitVec 64) (w : Nat) : cut (of n) w = of (n &&& low w) := by
  unfold cut of; simp

/-- what is known, with a mask of 0 -/
theorem known_of_has {t : Tn} {z : BitVec 64} (h : t.has z = true) (hm : t.m = 0) : t = of z := by
  refine tn_ext (fun i hi => ?_) (fun i hi => ?_)
  · rw [(has_iff _ _).1 h i hi, hm]
    show (bt z i && !bt 0#64 i) = bt z i
    rw [bt_zero]; simp
  · rw [hm]; rfl
theorem mask_add {a b : Tn} (ha : a.m = 0) (hb : b.m = 0) : (add a b).m = 0 := by
  unfold add made; simp [ha, hb]
theorem mask_sub {a b : Tn} (ha : a.m = 0) (hb : b.m = 0) : (sub a b).m = 0 := by
  unfold sub made; simp [ha, hb]
theorem mask_mulTo {a b : Tn} (ha : a.m = 0) (hb : b.m = 0) (k : Nat) : (mulTo a b k).m = 0 := by
  induction k with
  | zero => rfl
  | succ k ih =>
    unfold mulTo
    split
    · exact mask_add ih (by simp [ha])
    · have : bt b.m k = false := by rw [hb]; exact bt_zero k
      rw [this]; simpa using ih
theorem mask_and {a b : Tn} (ha : a.m = 0) (hb : b.m = 0) : (and a b).m = 0 := by
  unfold and; simp [ha, hb]
theorem mask_or {a b : Tn} (ha : a.m = 0) (hb : b.m = 0) : (or a b).m = 0 := by
  unfold or; simp [ha, hb]
theorem mask_xor {a b : Tn} (ha : a.m = 0) (hb : b.m = 0) : (xor a b).m = 0 := by
  unfold xor made; simp [ha, hb]
theorem right_of_mask {a : Tn} (ha : a.m = 0) : a.right = true := by
  unfold right; rw [ha]; simp
end Tn
end Hk
