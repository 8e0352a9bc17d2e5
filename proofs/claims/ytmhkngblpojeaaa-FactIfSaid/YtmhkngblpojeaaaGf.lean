/- Plain laws of facts, settled; no program in sight. No condition but those in each statement. Plain laws of facts, what follows; no program in sight. No condition but those in each statement. Plain laws: what the program's facts reckon is what the plain functions say; no program in sight. No condition but those in each statement. Plain laws of facts, more of them; no program in sight. No condition but those in each statement. Plain laws of facts that are made of a number; no program in sight. No condition but those in each statement. Plain laws: what is known of what arithmetic makes, way by way; no program in sight. No condition but those in each statement. Plain laws: Do of facts, way by way; no program in sight. No condition but those in each statement. Plain laws: what the reference of facts reckons is what the plain functions say; no program in sight. No condition but those in each statement. -/
import Derived.Test.YtmhkngblpojeaaaGq
namespace Hk
/-- how many bits a number takes -/
def ln (x : Nat) : Nat := if x = 0 then 0 else x.log2 + 1
theorem lt_ln (x : Nat) : x < 2 ^ ln x := by
  unfold ln; split
  · subst x; decide
  · exact Nat.lt_log2_self
theorem ln_le {x k : Nat} (h : x < 2 ^ k) : ln x ≤ k := by
  unfold ln; split
  · omega
  · rename_i h0; have := (Nat.log2_lt h0).2 h; omega
/-- the lowest k bits -/
def msk (k : Nat) : BitVec 64 := BitVec.ofNat 64 (2 ^ k - 1)
theorem bt_nat (x : BitVec 64) (i : Nat) : bt x i = x.toNat.testBit i := rfl
theorem bt_msk (k i : Nat) (hi : i < 64) : bt (msk k) i = decide (i < k) := by
  unfold msk bt
  rw [BitVec.getLsbD_ofNat, Nat.testBit_two_pow_sub_one]
  simp [hi]
/-- two numbers have the bits from k on in common -/
def top (k : Nat) (a b : BitVec 64) : Prop := a.toNat / 2 ^ k = b.toNat / 2 ^ k
theorem top_bit {k : Nat} {a b : BitVec 64} (h : top k a b) (i : Nat) (hi : k ≤ i) : bt a i = bt b i := by
  have e : ∀ x : BitVec 64, bt x i = (x.toNat / 2 ^ k).testBit (i - k) := by
    intro x
    rw [Nat.testBit_div_two_pow, bt_nat]
    congr 1; omega
  rw [e a, e b, h]
theorem top_of_bits {k : Nat} {a b : BitVec 64} (h : ∀ i, k ≤ i → bt a i = bt b i) : top k a b := by
  unfold top
  apply Nat.eq_of_testBit_eq
  intro i
  rw [Nat.testBit_div_two_pow, Nat.testBit_div_two_pow]
  exact h (i + k) (by omega)
theorem top_symm {k : Nat} {a b : BitVec 64} (h : top k a b) : top k b a := Eq.symm h
theorem top_trans {k : Nat} {a b c : BitVec 64} (h : top k a b) (h' : top k b c) : top k a c := Eq.trans h h'
theorem top_ln (a b : BitVec 64) : top (ln (a ^^^ b).toNat) a b := by
  apply top_of_bits
  intro i hi
  have h1 : bt (a ^^^ b) i = false := by
    rw [bt_nat]
    exact Nat.testBit_lt_two_pow (Nat.lt_of_lt_of_le (lt_ln _) (Nat.pow_le_pow_right (by omega) hi))
  rw [bt_xor] at h1
  revert h1
  cases bt a i <;> cases bt b i <;> simp
theorem ln_of_top {k : Nat} {a b : BitVec 64} (h : top k a b) : ln (a ^^^ b).toNat ≤ k := by
  apply ln_le
  apply Nat.lt_pow_two_of_testBit
  intro i hi
  show bt (a ^^^ b) i = false
  rw [bt_xor, top_bit h i hi]; simp
theorem top_between {k : Nat} {a b n : BitVec 64} (h : top k a b) (h1 : a.toNat ≤ n.toNat) (h2 : n.toNat ≤ b.toNat) : top k a n := by
  unfold top at *
  have := Nat.div_le_div_right (c := 2 ^ k) h1
  have := Nat.div_le_div_right (c := 2 ^ k) h2
  omega

/-- what a range tells of bits -/
def ranged (s : Sp) : Tn := Tn.made s.lo (msk (ln (s.lo ^^^ s.hi).toNat))
theorem ranged_has {s : Sp} {n : BitVec 64} (h : s.has n = true) : (ranged s).has n = true := by
  rw [Sp.has_iff] at h
  unfold ranged
  rw [Tn.has_made]
  intro i hi hm
  rw [bt_msk _ _ hi] at hm
  simp at hm
  exact (top_bit (top_between (top_ln _ _) h.1 h.2) i hm).symm
theorem ranged_right (s : Sp) : (ranged s).right = true := Tn.right_made _ _
theorem ranged_mono {a b : Sp} (h : a.within b = true) : (ranged a).within (ranged b) = true := by
  rw [Sp.within_iff] at h
  have t0 := top_ln b.lo b.hi
  have t1 := top_between t0 h.2.1 (by omega)
  have t2 := top_between t0 (n := a.hi) (by omega) h.2.2
  have t3 := ln_of_top (top_trans (top_symm t1) t2)
  rw [Tn.within_iff]
  refine ⟨ranged_right _, ranged_right _, fun i hi hm => ?_⟩
  unfold ranged Tn.made at *
  simp only [bt_and, bt_not _ _ hi, bt_msk _ _ hi] at *
  simp only [decide_eq_false_iff_not] at hm
  have h4 : ¬ i < ln (a.lo ^^^ a.hi).toNat := by omega
  refine ⟨decide_eq_false h4, ?_⟩
  rw [top_bit t1 i (by omega), decide_eq_false h4, decide_eq_false hm]

structure Fa where
  t : Tn
  s : Sp
deriving DecidableEq

namespace Fa
/-- from where to where a number is by its bits -/
def hull (t : Tn) : Sp := ⟨t.v, t.v ||| t.m⟩
def round (f : Fa) : Option Fa :=
  if Sp.meetOk f.s (hull f.t) then
    if Tn.meetOk f.t (ranged (Sp.both f.s (hull f.t))) then some ⟨Tn.meet f.t (ranged (Sp.both f.s (hull f.t))), Sp.both f.s (hull f.t)⟩ else none
  else none
def iter : Nat → Fa → Option Fa
  | 0, f => some f
  | n + 1, f => match round f with
    | none => none
    | some g => if g.t = f.t then some g else iter n g
def settle (f : Fa) : Option Fa := if f.t.right && f.s.right then iter 65 f else none
def ok (f : Fa) : Bool := settle f == some f
def zero : Fa := ⟨⟨0, 0⟩, ⟨0, 0⟩⟩
def of (n : BitVec 64) : Fa := ⟨Tn.of n, ⟨n, n⟩⟩
def any : Fa := ⟨⟨0, 18446744073709551615#64⟩, Sp.all⟩
/-- a number may be it (of a fact that need not be settled) -/
def may (f : Fa) (n : BitVec 64) : Prop := f.t.has n = true ∧ f.s.has n = true
def sub (f g : Fa) : Prop := f.t.within g.t = true ∧ f.s.within g.s = true
theorem sub_trans {f g h : Fa} (a : sub f g) (b : sub g h) : sub f h :=
  ⟨Tn.within_trans a.1 b.1, by have h1 := a.2; have h2 := b.2; rw [Sp.within_iff] at *; omega⟩
theorem sub_refl {f : Fa} (h1 : f.t.right = true) (h2 : f.s.right = true) : sub f f :=
  ⟨Tn.within_refl h1, by rw [Sp.right_iff] at h2; rw [Sp.within_iff]; omega⟩

def cnt (m : BitVec 64) : Nat → Nat
  | 0 => 0
  | k + 1 => cnt m k + (bt m k).toNat
theorem cnt_le {a b : BitVec 64} (h : ∀ i, bt a i = true → bt b i = true) (k : Nat) : cnt a k ≤ cnt b k := by
  induction k with
  | zero => exact Nat.le_refl _
  | succ k ih =>
    unfold cnt
    have := h k
    cases ha : bt a k
    · simp; omega
    · rw [this ha]; omega
theorem cnt_lt {a b : BitVec 64} (h : ∀ i, bt a i = true → bt b i = true) (j : Nat) (ha : bt a j = false) (hb : bt b j = true) : ∀ k, j < k → cnt a k < cnt b k := by
  intro k
  induction k with
  | zero => intro h; omega
  | succ k ih =>
    intro hk
    unfold cnt
    by_cases e : j = k
    · subst e
      have := cnt_le h j
      rw [ha, hb]; simp; omega
    · have := ih (by omega)
      have h' := h k
      cases ha : bt a k
      · simp; omega
      · rw [h' ha]; omega
theorem cnt_bound (m : BitVec 64) (k : Nat) : cnt m k ≤ k := by
  induction k with
  | zero => exact Nat.le_refl _
  | succ k ih => unfold cnt; cases bt m k <;> simp <;> omega

theorem meet_same {a b : Tn} (ok : Tn.meetOk a b = true) (h : (Tn.meet a b).m = a.m) : Tn.meet a b = a := by
  have ok' := (Tn.meetOk_iff a b).1 ok
  refine Tn.tn_ext (fun i hi => ?_) (fun i _ => by rw [h])
  rw [Tn.meet_v ok i hi]
  have h1 := bt_congr h i
  rw [Tn.meet_m ok i] at h1
  have h2 := ok'.2.2 i hi
  have h3 := Tn.right_bit ok'.1 i hi
  have h4 := Tn.right_bit ok'.2.1 i hi
  revert h1 h2 h3 h4
  cases bt a.m i <;> cases bt b.m i <;> cases bt a.v i <;> cases bt b.v i <;> decide
theorem meet_cnt {a b : Tn} (ok : Tn.meetOk a b = true) (h : Tn.meet a b ≠ a) : cnt (Tn.meet a b).m 64 < cnt a.m 64 := by
  have sub : ∀ i, bt (Tn.meet a b).m i = true → bt a.m i = true := by
    intro i hi; rw [Tn.meet_m ok i] at hi; cases ha : bt a.m i
    · rw [ha] at hi; simp at hi
    · rfl
  have ne : (Tn.meet a b).m ≠ a.m := fun e => h (meet_same ok e)
  have : ∃ i, i < 64 ∧ bt (Tn.meet a b).m i ≠ bt a.m i := by
    apply Classical.byContradiction
    intro hn
    apply ne
    apply bt_ext
    intro i hi
    apply Classical.byContradiction
    intro hc
    exact hn ⟨i, hi, hc⟩
  obtain ⟨j, hj, hd⟩ := this
  have h1 := sub j
  refine cnt_lt sub j ?_ ?_ 64 hj
  · cases hb : bt (Tn.meet a b).m j
    · rfl
    · rw [h1 hb, hb] at hd; exact (hd rfl).elim
  · cases hb : bt a.m j
    · cases hc : bt (Tn.meet a b).m j
      · rw [hb, hc] at hd; exact (hd rfl).elim
      · rw [hb] at h1; exact absurd (h1 hc) (by simp)
    · rfl

theorem or_toNat_ge (a b : BitVec 64) : a.toNat ≤ (a ||| b).toNat := by rw [BitVec.toNat_or]; exact Nat.left_le_or
theorem hull_has {t : Tn} {n : BitVec 64} (h : t.has n = true) : (hull t).has n = true := by
  rw [Sp.has_iff]
  have sub_le : ∀ {a b : BitVec 64}, (∀ i, bt a i = true → bt b i = true) → a.toNat ≤ b.toNat := by
    intro a b hs
    have : a ||| b = b := bt_ext fun i _ => by
      rw [bt_or]; have := hs i; cases ha : bt a i
      · simp
      · rw [this ha]; rfl
    have e := or_toNat_ge a b
    rw [this] at e; exact e
  exact ⟨sub_le (Tn.has_lo h), sub_le (Tn.has_hi h)⟩
theorem hull_right (t : Tn) : (hull t).right = true := by rw [Sp.right_iff]; exact or_toNat_ge _ _
theorem bits_le {a b : BitVec 64} (hs : ∀ i, bt a i = true → bt b i = true) : a.toNat ≤ b.toNat := by
  have : a ||| b = b := bt_ext fun i _ => by
    rw [bt_or]; have := hs i; cases ha : bt a i
    · simp
    · rw [this ha]; rfl
  have e := or_toNat_ge a b
  rw [this] at e; exact e
theorem hull_mono {a b : Tn} (h : a.within b = true) : (hull a).within (hull b) = true := by
  rw [Tn.within_iff] at h
  rw [Sp.within_iff]
  refine ⟨or_toNat_ge _ _, bits_le fun i hb => ?_, bits_le fun i hb => ?_⟩
  · have hi := bt_lt hb
    simp only [hull] at hb ⊢
    cases hm : bt b.m i
    · rw [(h.2.2 i hi hm).2]; exact hb
    · rw [Tn.right_bit h.2.1 i hi hm] at hb; cases hb
  · have hi := bt_lt hb
    simp only [hull, bt_or] at hb ⊢
    cases hm : bt b.m i
    · have ⟨h1, h2⟩ := h.2.2 i hi hm
      rw [h1, h2] at hb; exact hb
    · simp

theorem round_may {f : Fa} {n : BitVec 64} (h : may f n) : ∃ g, round f = some g ∧ may g n := by
  obtain ⟨ht, hs⟩ := h
  have hh := hull_has ht
  have m1 := Sp.meet_has f.s (hull f.t) n (Sp.right_of_has hs) (hull_right _)
  rw [hs, hh] at m1
  simp only [Bool.and_self, Bool.and_eq_true] at m1
  obtain ⟨ok1, has1⟩ := m1
  unfold Sp.meet at has1
  rw [if_pos ok1] at has1
  have hr := ranged_has has1
  have m2 := Tn.meet_has f.t (ranged (Sp.both f.s (hull f.t))) n
  rw [ht, hr] at m2
  simp only [Bool.and_self] at m2
  have m2 := m2.symm
  rw [Bool.and_eq_true] at m2
  refine ⟨_, by unfold round; rw [if_pos ok1, if_pos m2.1], m2.2, has1⟩
theorem round_some {f g : Fa} (h : round f = some g) : Sp.meetOk f.s (hull f.t) = true ∧ Tn.meetOk f.t (ranged (Sp.both f.s (hull f.t))) = true ∧ g = ⟨Tn.meet f.t (ranged (Sp.both f.s (hull f.t))), Sp.both f.s (hull f.t)⟩ := by
  unfold round at h
  split at h
  · rename_i h1
    split at h
    · rename_i h2
      exact ⟨h1, h2, by simpa using h.symm⟩
    · cases h
  · cases h
theorem both_within_l {a b : Sp} (h : Sp.meetOk a b = true) : (Sp.both a b).within a = true :=
  Sp.meet?_within (b := b) (by unfold Sp.meet?; rw [if_pos h])
theorem both_within_r {a b : Sp} (h : Sp.meetOk a b = true) : (Sp.both a b).within b = true := by
  rw [Sp.meetOk_iff] at h; rw [Sp.within_iff]; simp only [Sp.both, Sp.mx_nat, Sp.mn_nat]; omega
theorem round_sub {f g : Fa} (h : round f = some g) : sub g f := by
  obtain ⟨h1, h2, rfl⟩ := round_some h
  exact ⟨Tn.meet_within_l h2, both_within_l h1⟩
theorem sp_ext {a b : Sp} (h1 : a.lo.toNat = b.lo.toNat) (h2 : a.hi.toNat = b.hi.toNat) : a = b := by
  cases a; cases b; simp only [Sp.mk.injEq]; exact ⟨BitVec.eq_of_toNat_eq h1, BitVec.eq_of_toNat_eq h2⟩
theorem both_eq {a b : Sp} (h : a.within b = true) : Sp.both a b = a ∧ Sp.meetOk a b = true := by
  rw [Sp.within_iff] at h
  refine ⟨sp_ext ?_ ?_, ?_⟩
  · simp only [Sp.both, Sp.mx_nat]; omega
  · simp only [Sp.both, Sp.mn_nat]; omega
  · rw [Sp.meetOk_iff]; omega
/-- a round that leaves the bits as they were leaves a fact that is settled -/
theorem round_fix {f g : Fa} (h : round f = some g) (e : g.t = f.t) : round g = some g := by
  obtain ⟨h1, h2, rfl⟩ := round_some h
  have hw := both_within_r h1
  simp only at e
  have e1 := both_eq hw
  unfold round
  simp only [e]
  rw [e1.1, if_pos e1.2, if_pos h2, e]
theorem fix_of (f : Fa) (h : round f = some f) : f.t.right = true ∧ f.s.right = true ∧ f.s.within (hull f.t) = true ∧ f.t.within (ranged f.s) = true := by
  obtain ⟨h1, h2, h3⟩ := round_some h
  have h4 := (Tn.meetOk_iff _ _).1 h2
  have h5 := (Sp.meetOk_iff _ _).1 h1
  have hs : Sp.both f.s (hull f.t) = f.s := (congrArg Fa.s h3).symm
  have ht : Tn.meet f.t (ranged (Sp.both f.s (hull f.t))) = f.t := (congrArg Fa.t h3).symm
  refine ⟨h4.1, by rw [Sp.right_iff]; exact h5.1, ?_, ?_⟩
  · have := both_within_r h1; rwa [hs] at this
  · have := Tn.meet_within_r h2; rwa [ht, hs] at this
/-- what is settled and within a fact is within a round of it -/
theorem round_keeps {x f : Fa} (hx : round x = some x) (h : sub x f) : ∃ g, round f = some g ∧ sub x g := by
  obtain ⟨x1, x2, x3, x4⟩ := fix_of x hx
  have hh := hull_mono h.1
  have k1 : Sp.meetOk f.s (hull f.t) = true ∧ x.s.within (Sp.both f.s (hull f.t)) = true := by
    have a1 := h.2
    rw [Sp.within_iff] at a1 hh x3
    rw [Sp.meetOk_iff, Sp.within_iff]
    simp only [Sp.both, Sp.mx_nat, Sp.mn_nat]
    have := (Sp.right_iff _).1 (hull_right f.t)
    omega
  have k2 := Tn.within_trans x4 (ranged_mono k1.2)
  have k3 : Tn.meetOk f.t (ranged (Sp.both f.s (hull f.t))) = true := by
    have := (Tn.within_iff _ _).1 h.1
    have k2' := (Tn.within_iff _ _).1 k2
    rw [Tn.meetOk_iff]
    exact ⟨this.2.1, ranged_right _, fun i hi h1 h2 => by rw [← (this.2.2 i hi h1).2, ← (k2'.2.2 i hi h2).2]⟩
  refine ⟨_, by unfold round; rw [if_pos k1.1, if_pos k3], ?_, k1.2⟩
  have a := (Tn.within_iff _ _).1 h.1
  have b := (Tn.within_iff _ _).1 k2
  rw [Tn.within_iff]
  refine ⟨x1, Tn.right_meet k3, fun i hi hm => ?_⟩
  rw [Tn.meet_m k3 i] at hm
  rw [Tn.meet_v k3 i hi]
  have c1 := a.2.2 i hi
  have c2 := b.2.2 i hi
  have c3 := Tn.right_bit a.2.1 i hi
  have c4 := Tn.right_bit (ranged_right (Sp.both f.s (hull f.t))) i hi
  revert hm c1 c2 c3 c4
  cases bt f.t.m i <;> cases bt (ranged (Sp.both f.s (hull f.t))).m i <;> cases bt x.t.m i <;> cases bt f.t.v i <;> cases bt (ranged (Sp.both f.s (hull f.t))).v i <;> cases bt x.t.v i <;> simp

theorem iter_spec : ∀ (n : Nat) (f g : Fa), cnt f.t.m 64 < n → iter n f = some g → round g = some g ∧ sub g f := by
  intro n
  induction n with
  | zero => intro f g h; omega
  | succ n ih =>
    intro f g hc h
    unfold iter at h
    cases hr : round f with
    | none => rw [hr] at h; cases h
    | some k =>
      rw [hr] at h
      simp only at h
      split at h
      · rename_i he
        simp only [Option.some.injEq] at h
        subst h
        exact ⟨round_fix hr he, round_sub hr⟩
      · rename_i he
        obtain ⟨h1, h2, e⟩ := round_some hr
        have : cnt k.t.m 64 < cnt f.t.m 64 := by
          rw [e]; refine meet_cnt h2 ?_
          intro h3; apply he; rw [e]; exact h3
        have := ih k g (by omega) h
        exact ⟨this.1, sub_trans this.2 (round_sub hr)⟩
theorem iter_fix {f : Fa} (h : round f = some f) (n : Nat) : iter n f = some f := by
  cases n with
  | zero => rfl
  | succ n => unfold iter; rw [h]; simp
theorem iter_may : ∀ (n : Nat) (f : Fa) (x : BitVec 64), may f x → ∃ g, iter n f = some g ∧ may g x := by
  intro n
  induction n with
  | zero => intro f x h; exact ⟨f, rfl, h⟩
  | succ n ih =>
    intro f x h
    obtain ⟨g, hg, hm⟩ := round_may h
    unfold iter
    rw [hg]
    simp only
    split
    · exact ⟨g, rfl, hm⟩
    · exact ih g x hm
theorem iter_keeps : ∀ (n : Nat) (x f : Fa), round x = some x → sub x f → ∃ g, iter n f = some g ∧ sub x g := by
  intro n
  induction n with
  | zero => intro x f _ h; exact ⟨f, rfl, h⟩
  | succ n ih =>
    intro x f hx h
    obtain ⟨g, hg, hm⟩ := round_keeps hx h
    unfold iter
    rw [hg]
    simp only
    split
    · exact ⟨g, rfl, hm⟩
    · exact ih x g hx hm
/-- more fuel than bits that may be either changes nothing -/
theorem iter_more : ∀ (n : Nat) (f : Fa), cnt f.t.m 64 < n → ∀ k, iter (n + k) f = iter n f := by
  intro n
  induction n with
  | zero => intro f h; omega
  | succ n ih =>
    intro f hc k
    rw [show n + 1 + k = (n + k) + 1 by omega]
    unfold iter
    cases hr : round f with
    | none => rfl
    | some g =>
      simp only
      split
      · rfl
      · rename_i he
        obtain ⟨h1, h2, e⟩ := round_some hr
        have : cnt g.t.m 64 < cnt f.t.m 64 := by
          rw [e]; refine meet_cnt h2 ?_
          intro h3; apply he; rw [e]; exact h3
        exact ih g (by omega) k
theorem settle_spec {f g : Fa} (h : settle f = some g) : round g = some g ∧ sub g f := by
  unfold settle at h
  split at h
  · exact iter_spec 65 f g (by have := cnt_bound f.t.m 64; omega) h
  · cases h
theorem settle_fix {f : Fa} (h : round f = some f) : settle f = some f := by
  have := fix_of f h
  unfold settle; rw [this.1, this.2.1]; exact iter_fix h 65
theorem ok_iff (f : Fa) : ok f = true ↔ round f = some f := by
  unfold ok; rw [beq_iff_eq]
  exact ⟨fun h => (settle_spec h).1, settle_fix⟩
theorem settle_ok {f g : Fa} (h : settle f = some g) : ok g = true := (ok_iff g).2 (settle_spec h).1
theorem settle_may {f : Fa} {n : BitVec 64} (h : may f n) : ∃ g, settle f = some g ∧ may g n := by
  unfold settle; rw [Tn.has_right h.1, Sp.right_of_has h.2]; exact iter_may 65 f n h
theorem settle_keeps {x f : Fa} (hx : ok x = true) (h : sub x f) : ∃ g, settle f = some g ∧ sub x g := by
  rw [ok_iff] at hx
  have h1 := (Tn.within_iff _ _).1 h.1
  have h2 := (Sp.within_iff _ _).1 h.2
  unfold settle
  rw [h1.2.1, (Sp.right_iff _).2 (by omega)]
  exact iter_keeps 65 x f hx h
theorem sub_may {f g : Fa} {n : BitVec 64} (h : sub f g) (hn : may f n) : may g n :=
  ⟨Tn.has_within h.1 hn.1, by have h1 := hn.2; have h2 := h.2; rw [Sp.has_iff] at *; rw [Sp.within_iff] at h2; omega⟩
theorem ok_right {f : Fa} (h : ok f = true) : f.t.right = true ∧ f.s.right = true := by
  rw [ok_iff] at h; exact ⟨(fix_of f h).1, (fix_of f h).2.1⟩
theorem sub_antisymm {f g : Fa} (h1 : sub f g) (h2 : sub g f) : f = g := by
  cases f; cases g
  have a1 := (Tn.within_iff _ _).1 h1.1
  have a2 := (Tn.within_iff _ _).1 h2.1
  have b1 := (Sp.within_iff _ _).1 h1.2
  have b2 := (Sp.within_iff _ _).1 h2.2
  simp only [Fa.mk.injEq] at *
  refine ⟨Tn.tn_ext (fun i hi => ?_) (fun i hi => ?_), sp_ext (by omega) (by omega)⟩
  · have c1 := a1.2.2 i hi
    have c2 := a2.2.2 i hi
    have c3 := Tn.right_bit a1.1 i hi
    have c4 := Tn.right_bit a2.1 i hi
    revert c1 c2 c3 c4
    generalize bt _ i = p, bt _ i = q
    rename_i t _ t' _
    cases p <;> cases q <;> simp <;> intros <;> simp_all
  · have c1 := a1.2.2 i hi
    have c2 := a2.2.2 i hi
    rename_i t _ t' _
    cases hp : bt t.m i <;> cases hq : bt t'.m i
    · rfl
    · have := (c2 hp).1; rw [hq] at this; cases this
    · have := (c1 hq).1; rw [hp] at this; cases this
    · rfl
end Fa
end Hk

namespace Hk

namespace Fa
def known (f : Fa) : Option (BitVec 64) := if f.t.m = 0 ∧ ok f = true then some f.t.v else none
def has (f : Fa) (n : BitVec 64) : Bool := ok f && f.t.has n && f.s.has n
def within (a b : Fa) : Bool := ok a && ok b && a.t.within b.t && a.s.within b.s
def settled (t : Tn) (s : Sp) : Fa := (settle ⟨t, s⟩).getD zero
def join (a b : Fa) : Fa := if ok a && ok b then settled (Tn.join a.t b.t) (Sp.join a.s b.s) else zero
def cutS (s : Sp) : Sp := if 4294967296#64 ≤ s.hi then ⟨0, 4294967295#64⟩ else s
def cut (f : Fa) : Fa := if ok f then settled (Tn.cut f.t 32) (cutS f.s) else zero
def plainDo (op : Int) (x y : Fa) : Fa := settled ((Tn.do_ op x.t y.t).getD any.t) (Sp.do_ op x.s y.s)
def less (wide : Bool) : BitVec 64 := if wide then 63#64 else 31#64
/-- of two that are not both known -/
def makes' (op : Int) (wide : Bool) (off : Int) (x y : Fa) : Fa :=
  if off ≠ 0 then any
  else if op = 176 then y
  else if op = 0 ∨ op = 16 ∨ op = 32 ∨ op = 80 ∨ op = 64 ∨ op = 160 then plainDo op x y
  else if op = 96 ∨ op = 112 then
    match known y with
    | none => any
    | some q => plainDo op x (of (q &&& less wide))
  else if op = 48 ∨ op = 144 then
    if known y = some 0#64 then (if op = 48 then of 0#64 else x) else plainDo op x y
  else any
def makes (op : Int) (wide : Bool) (off : Int) (x y : Fa) : Fa :=
  match known x, known y with
  | some p, some q => of ((Alu.go op wide off p q).getD 0#64)
  | _, _ => makes' op wide off x y
def do_ (op : Int) (wide : Bool) (off : Int) (a b : Fa) : Option Fa :=
  if (Alu.go op wide off 0#64 0#64).isSome && ok a && ok b then some (if wide then makes op wide off a b else cut (makes op wide off (cut a) (cut b))) else none
def ranges (op : Int) (a b : Fa) : Option (Fa × Fa) :=
  match Sp.if_ op a.s b.s with
  | none => none
  | some r =>
    match (match Cond.turned op with | none => some b.s | some back => Sp.if_ back b.s a.s) with
    | none => none
    | some s => match settle ⟨a.t, r⟩ with
      | none => none
      | some x => match settle ⟨b.t, s⟩ with
        | none => none
        | some y => some (x, y)
def if' (op : Int) (wide : Bool) (a b : Fa) : Option (Fa × Fa) :=
  if wide = false ∧ (4294967296#64 ≤ a.s.hi ∨ 4294967296#64 ≤ b.s.hi) then some (a, b)
  else if op = 16 then (if Tn.meetOk a.t b.t then ranges op ⟨Tn.meet a.t b.t, a.s⟩ ⟨Tn.meet a.t b.t, b.s⟩ else none)
  else ranges op a b
def if_ (op : Int) (wide : Bool) (a b : Fa) : Option (Fa × Fa) :=
  if ok a && ok b then
    match known a, known b with
    | some p, some q => if Cond.is op wide p q = some true then some (a, b) else none
    | _, _ => if' op wide a b
  else none

theorem known_may {f : Fa} {k x : BitVec 64} (h : known f = some k) (hx : may f x) : x = k := by
  unfold known at h
  split at h
  · rename_i h1
    simp only [Option.some.injEq] at h
    rw [← h]; exact (Tn.has_known hx.1 h1.1).symm
  · cases h
theorem may_of (n : BitVec 64) : may (of n) n := by
  constructor
  · rw [Tn.has_iff]; intro i hi; simp [of, Tn.of, bt]
  · rw [Sp.has_iff]; simp [of]
theorem settled_may {t : Tn} {s : Sp} {n : BitVec 64} (ht : t.has n = true) (hs : s.has n = true) : ok (settled t s) = true ∧ may (settled t s) n := by
  obtain ⟨g, hg, hm⟩ := settle_may (f := ⟨t, s⟩) ⟨ht, hs⟩
  unfold settled; rw [hg]; exact ⟨settle_ok hg, hm⟩
theorem of_eq {f : Fa} {n : BitVec 64} (h : sub f (of n)) (hr : f.t.right = true) : f = of n := by
  refine sub_antisymm h ?_
  have h1 := (Tn.within_iff _ _).1 h.1
  have h2 := (Sp.within_iff _ _).1 h.2
  refine ⟨?_, ?_⟩
  · rw [Tn.within_iff]
    refine ⟨h1.2.1, hr, fun i hi _ => ?_⟩
    have := h1.2.2 i hi (bt_zero i)
    exact ⟨bt_zero i, this.2.symm⟩
  · rw [Sp.within_iff]; simp only [of] at *; omega
theorem settle_of {t : Tn} {s : Sp} {n : BitVec 64} (ht : t = Tn.of n) (hs : s.has n = true) : settle ⟨t, s⟩ = some (of n) := by
  subst ht
  have hh : (Tn.of n).has n = true := (may_of n).1
  obtain ⟨g, hg, hm⟩ := settle_may (f := ⟨Tn.of n, s⟩) ⟨hh, hs⟩
  have h1 := settle_spec hg
  have h2 := fix_of g h1.1
  have h3 := h1.2
  have : sub g (of n) := by
    refine ⟨h3.1, ?_⟩
    have a1 := (Sp.within_iff _ _).1 h2.2.2.1
    have a2 := (Sp.within_iff _ _).1 (hull_mono h3.1)
    rw [Sp.within_iff]
    have e : hull (Tn.of n) = (of n).s := by unfold hull of Tn.of; simp
    have a3 : (hull (Tn.of n)).lo.toNat = (of n).s.lo.toNat := by rw [e]
    have a4 : (hull (Tn.of n)).hi.toNat = (of n).s.hi.toNat := by rw [e]
    simp only at a2
    omega
  rw [hg, of_eq this h2.1]
theorem ok_of (n : BitVec 64) : ok (of n) = true := by
  have := settle_of (t := Tn.of n) (s := ⟨n, n⟩) rfl (may_of n).2
  exact settle_ok this
theorem known_of (n : BitVec 64) : known (of n) = some n := by
  unfold known; rw [if_pos ⟨rfl, ok_of n⟩]; rfl
theorem may_any (n : BitVec 64) : may any n := by
  constructor
  · rw [Tn.has_iff]; intro i hi
    have : bt (18446744073709551615#64) i = true := by
      have e : (18446744073709551615#64) = ~~~0#64 := by decide
      rw [e, bt_not _ _ hi, bt_zero]; rfl
    simp only [any, this]
    have := bt_zero i
    simp [bt]
  · exact Sp.has_all n
theorem sub_any {f : Fa} (h1 : f.t.right = true) (h2 : f.s.right = true) : sub f any := by
  constructor
  · rw [Tn.within_iff]
    refine ⟨h1, by decide, fun i hi hm => ?_⟩
    have : bt (18446744073709551615#64) i = true := by
      have e : (18446744073709551615#64) = ~~~0#64 := by decide
      rw [e, bt_not _ _ hi, bt_zero]; rfl
    simp only [any, this] at hm
    cases hm
  · rw [Sp.right_iff] at h2
    rw [Sp.within_iff]
    have := f.s.hi.isLt
    have e1 : any.s.lo.toNat = 0 := rfl
    have e2 : any.s.hi.toNat = 18446744073709551615 := rfl
    omega
theorem ok_any : ok any = true := by
  have hr : any.t.right = true := by decide
  have hs : any.s.right = true := by decide
  rw [ok_iff]
  have h1 : Sp.both any.s (hull any.t) = any.s := by decide
  have h2 : Sp.meetOk any.s (hull any.t) = true := by decide
  have h3 : ranged any.s = any.t := by decide
  unfold round
  rw [h1, if_pos h2, h3, if_pos (Tn.meetOk_self hr), Tn.meet_self hr]
theorem has_iff {f : Fa} {n : BitVec 64} : has f n = true ↔ ok f = true ∧ may f n := by
  unfold has may; simp only [Bool.and_eq_true, and_assoc]
theorem within_iff {f g : Fa} : within f g = true ↔ ok f = true ∧ ok g = true ∧ sub f g := by
  unfold within sub; simp only [Bool.and_eq_true, and_assoc]

theorem join_sub_l {a b : Fa} (ha : ok a = true) (hb : ok b = true) : sub a ⟨Tn.join a.t b.t, Sp.join a.s b.s⟩ ∧ sub b ⟨Tn.join a.t b.t, Sp.join a.s b.s⟩ := by
  obtain ⟨a1, a2⟩ := ok_right ha
  obtain ⟨b1, b2⟩ := ok_right hb
  refine ⟨⟨Tn.within_join_l a1 b1, ?_⟩, ⟨Tn.within_join_r a1 b1, ?_⟩⟩
  · rw [Sp.within_iff, Sp.join_lo a2 b2, Sp.join_hi a2 b2]; rw [Sp.right_iff] at a2 b2; omega
  · rw [Sp.within_iff, Sp.join_lo a2 b2, Sp.join_hi a2 b2]; rw [Sp.right_iff] at a2 b2; omega
theorem join_spec {a b : Fa} (ha : ok a = true) (hb : ok b = true) : ok (join a b) = true ∧ sub a (join a b) ∧ sub b (join a b) := by
  obtain ⟨h1, h2⟩ := join_sub_l ha hb
  obtain ⟨g, hg, k1⟩ := settle_keeps ha h1
  obtain ⟨g', hg', k2⟩ := settle_keeps hb h2
  rw [hg] at hg'
  simp only [Option.some.injEq] at hg'
  subst hg'
  unfold join settled; rw [ha, hb, hg]
  exact ⟨settle_ok hg, k1, k2⟩
theorem sp_join_self {s : Sp} (h : s.right = true) : Sp.join s s = s := by
  refine sp_ext ?_ ?_
  · rw [Sp.join_lo h h]; omega
  · rw [Sp.join_hi h h]; omega
theorem join_self {a : Fa} (ha : ok a = true) : join a a = a := by
  obtain ⟨a1, a2⟩ := ok_right ha
  unfold join settled
  rw [ha, Tn.join_self a1, sp_join_self a2]
  rw [ok_iff] at ha
  rw [settle_fix ha]; rfl

theorem low32 : Tn.low 32 = 4294967295#64 := by decide
theorem and_low32 (x : BitVec 64) : (x &&& Tn.low 32).toNat = x.toNat % 4294967296 := by
  rw [low32, BitVec.toNat_and]
  show x.toNat &&& (2 ^ 32 - 1) = _
  rw [Nat.and_two_pow_sub_one_eq_mod]
theorem cut_may {f : Fa} {x : BitVec 64} (hf : ok f = true) (h : may f x) : ok (cut f) = true ∧ may (cut f) (x &&& Tn.low 32) := by
  unfold cut; rw [if_pos hf]
  refine settled_may (Tn.has_cut h.1 32) ?_
  rw [Sp.has_iff, and_low32]
  have h2 := (Sp.has_iff _ _).1 h.2
  unfold cutS
  have z0 : (0 : BitVec 64).toNat = 0 := rfl
  split
  · simp only [BitVec.toNat_ofNat]; omega
  · rename_i hn
    rw [BitVec.le_def] at hn
    simp only [BitVec.toNat_ofNat] at hn
    omega
theorem cut_low (f : Fa) : (cut f).s.hi.toNat < 4294967296 ∧ ((cut f).t.v ||| (cut f).t.m).toNat < 4294967296 := by
  have z : zero.s.hi.toNat < 4294967296 ∧ (zero.t.v ||| zero.t.m).toNat < 4294967296 := by decide
  unfold cut
  split
  · rename_i hf
    unfold settled
    cases hg : settle ⟨Tn.cut f.t 32, cutS f.s⟩ with
    | none => exact z
    | some g =>
      have h := (settle_spec hg).2
      constructor
      · have := (Sp.within_iff _ _).1 h.2
        show g.s.hi.toNat < _
        have e : (cutS f.s).hi.toNat < 4294967296 := by
          unfold cutS; split
          · decide
          · rename_i hn
            rw [BitVec.le_def] at hn
            simp only [BitVec.toNat_ofNat] at hn
            omega
        simp only at this
        omega
      · have := (Sp.within_iff _ _).1 (hull_mono h.1)
        show (g.t.v ||| g.t.m).toNat < _
        have e : (hull (Tn.cut f.t 32)).hi.toNat < 4294967296 := by
          show ((f.t.v &&& Tn.low 32) ||| (f.t.m &&& Tn.low 32)).toNat < _
          have e : (f.t.v &&& Tn.low 32) ||| (f.t.m &&& Tn.low 32) = (f.t.v ||| f.t.m) &&& Tn.low 32 := by
            apply bt_ext; intro i hi; simp only [bt_or, bt_and]; cases bt f.t.v i <;> cases bt f.t.m i <;> cases bt (Tn.low 32) i <;> rfl
          rw [e, and_low32]; omega
        have e2 : (hull g.t).hi = (g.t.v ||| g.t.m) := rfl
        rw [← e2]
        have this := this.2.2
        simp only at this
        omega
  · exact z
theorem cut_of (n : BitVec 64) : cut (of n) = of (n &&& Tn.low 32) := by
  unfold cut settled
  rw [if_pos (ok_of n)]
  have hs : (cutS (of n).s).has (n &&& Tn.low 32) = true := by
    rw [Sp.has_iff, and_low32]
    unfold cutS
    have z0 : (0 : BitVec 64).toNat = 0 := rfl
    split
    · simp only [BitVec.toNat_ofNat]; omega
    · rename_i hn
      rw [BitVec.le_def] at hn
      simp only [of, BitVec.toNat_ofNat] at hn ⊢
      omega
  have := settle_of (Tn.cut_of n 32) hs
  show (settle ⟨Tn.cut (Tn.of n) 32, cutS (of n).s⟩).getD zero = _
  rw [this]; rfl

theorem plainDo_sound {op : Int} {a b : Fa} {x y z : BitVec 64} (hx : may a x) (hy : may b y) (hz : Alu.go op true 0 x y = some z) : ok (plainDo op a b) = true ∧ may (plainDo op a b) z := by
  unfold plainDo
  refine settled_may ?_ (Sp.do_sound op a.s b.s x y z hx.2 hy.2 hz)
  cases h : Tn.do_ op a.t b.t with
  | none => exact (may_any z).1
  | some t => exact Tn.do_sound hx.1 hy.1 h hz
theorem toNat_sub32 (x y : BitVec 64) : (BitVec.setWidth 32 (x - y)) = BitVec.setWidth 32 x - BitVec.setWidth 32 y := by
  apply BitVec.eq_of_toNat_eq
  simp only [BitVec.toNat_setWidth, BitVec.toNat_sub]
  have := x.isLt; have := y.isLt
  omega
theorem low_of_set (z : BitVec 64) : z &&& Tn.low 32 = BitVec.setWidth 64 (BitVec.setWidth 32 z) := by
  apply BitVec.eq_of_toNat_eq
  rw [and_low32]
  simp only [BitVec.toNat_setWidth]
  omega
theorem set_small {x : BitVec 64} (h : x.toNat < 4294967296) : (BitVec.setWidth 32 x).toNat = x.toNat := by
  simp only [BitVec.toNat_setWidth]; omega
/-- narrow arithmetic is wide arithmetic, cut, of small numbers (but for how far bits move) -/
theorem narrow_wide {op : Int} {x y z : BitVec 64} (hx : x.toNat < 4294967296) (hy : y.toNat < 4294967296) (hop : op = 0 ∨ op = 16 ∨ op = 32 ∨ op = 80 ∨ op = 64 ∨ op = 160 ∨ op = 48 ∨ op = 144)
    (hz : Alu.go op false 0 x y = some z) : ∃ z', Alu.go op true 0 x y = some z' ∧ z' &&& Tn.low 32 = z := by
  unfold Alu.go Alu.gen at *
  simp only [if_true] at *
  rcases hop with rfl | rfl | rfl | rfl | rfl | rfl | rfl | rfl
  · simp at hz ⊢; rw [low_of_set, BitVec.setWidth_add _ _ (by omega)]; exact hz
  · simp at hz ⊢; rw [low_of_set, toNat_sub32]; exact hz
  · simp at hz ⊢; rw [low_of_set, BitVec.setWidth_mul _ _ (by omega)]; exact hz
  · simp at hz ⊢; rw [low_of_set, BitVec.setWidth_and]; rw [← hz]; simp
  · simp at hz ⊢; rw [low_of_set, BitVec.setWidth_or]; rw [← hz]; simp
  · simp at hz ⊢; rw [low_of_set, BitVec.setWidth_xor]; rw [← hz]; simp
  · simp at hz ⊢; rw [← hz]
    apply BitVec.eq_of_toNat_eq
    rw [and_low32]
    simp only [BitVec.toNat_setWidth, BitVec.toNat_udiv]
    have h := Nat.div_le_self x.toNat y.toNat
    have hx' : x.toNat % 2 ^ 32 = x.toNat := Nat.mod_eq_of_lt hx
    have hy' : y.toNat % 2 ^ 32 = y.toNat := Nat.mod_eq_of_lt hy
    rw [hx', hy']
    generalize x.toNat / y.toNat = q at *
    omega
  · simp at hz ⊢; rw [← hz]
    apply BitVec.eq_of_toNat_eq
    rw [and_low32]
    simp only [BitVec.toNat_setWidth, BitVec.toNat_umod]
    have h := Nat.mod_le x.toNat y.toNat
    have hx' : x.toNat % 2 ^ 32 = x.toNat := Nat.mod_eq_of_lt hx
    have hy' : y.toNat % 2 ^ 32 = y.toNat := Nat.mod_eq_of_lt hy
    rw [hx', hy']
    omega

theorem less_toNat (wide : Bool) (q : BitVec 64) : (q &&& less wide).toNat = q.toNat % (if wide then 64 else 32) := by
  cases wide
  · show (q &&& 31#64).toNat = q.toNat % 32
    rw [BitVec.toNat_and]
    show q.toNat &&& (2 ^ 5 - 1) = _
    rw [Nat.and_two_pow_sub_one_eq_mod]
  · show (q &&& 63#64).toNat = q.toNat % 64
    rw [BitVec.toNat_and]
    show q.toNat &&& (2 ^ 6 - 1) = _
    rw [Nat.and_two_pow_sub_one_eq_mod]
theorem go_none_iff (op : Int) (wide : Bool) (off : Int) (a b c d : BitVec 64) : (Alu.go op wide off a b).isSome = (Alu.go op wide off c d).isSome := by
  have g : ∀ (w : Nat) (a b c d : BitVec w), (Alu.gen w op off a b).isSome = (Alu.gen w op off c d).isSome := by
    intro w a b c d
    unfold Alu.gen
    simp only [apply_ite Option.isSome, Option.isSome_some, Option.isSome_none]
  unfold Alu.go
  cases wide
  · simp only [Bool.false_eq_true, if_false, Option.isSome_map]; exact g _ _ _ _ _
  · simp only [if_true]; exact g _ _ _ _ _

/-- what is told of arithmetic is so, of facts and numbers that may be (of narrow arithmetic: of numbers that are cut; but for the cut behind it) -/
theorem makes_sound {op : Int} {wide : Bool} {off : Int} {a b : Fa} {x y z : BitVec 64} (oa : ok a = true) (ob : ok b = true) (hx : may a x) (hy : may b y)
    (sx : wide = false → x.toNat < 4294967296) (sy : wide = false → y.toNat < 4294967296) (hz : Alu.go op wide off x y = some z) :
    ok (makes op wide off a b) = true ∧ ∃ z', may (makes op wide off a b) z' ∧ (if wide then z' = z else z' &&& Tn.low 32 = z) := by
  have zlow : wide = false → z &&& Tn.low 32 = z := by
    intro hw; subst hw
    unfold Alu.go at hz
    simp only [Bool.false_eq_true, if_false, Option.map_eq_some_iff] at hz
    obtain ⟨q, _, hq⟩ := hz
    rw [low_of_set, ← hq]; simp
  have fin : ∀ {f : Fa} , ok f = true → may f z → ok f = true ∧ ∃ z', may f z' ∧ (if wide then z' = z else z' &&& Tn.low 32 = z) := by
    intro f h1 h2
    refine ⟨h1, z, h2, ?_⟩
    cases wide
    · exact zlow rfl
    · rfl
  have hplain : off = 0 → (op = 0 ∨ op = 16 ∨ op = 32 ∨ op = 80 ∨ op = 64 ∨ op = 160 ∨ op = 48 ∨ op = 144) →
      ok (plainDo op a b) = true ∧ ∃ z', may (plainDo op a b) z' ∧ (if wide then z' = z else z' &&& Tn.low 32 = z) := by
    intro h0 hop
    subst h0
    cases wide
    · obtain ⟨z', h1, h2⟩ := narrow_wide (sx rfl) (sy rfl) hop hz
      have := plainDo_sound hx hy h1
      exact ⟨this.1, z', this.2, h2⟩
    · have := plainDo_sound hx hy hz
      exact ⟨this.1, z, this.2, rfl⟩
  have main : ok (makes' op wide off a b) = true ∧ ∃ z', may (makes' op wide off a b) z' ∧ (if wide then z' = z else z' &&& Tn.low 32 = z) := by
    unfold makes'
    split
    · exact fin ok_any (may_any z)
    rename_i h0
    have h0 : off = 0 := by omega
    split
    · rename_i h1
      subst h0; subst h1
      unfold Alu.go Alu.gen at hz
      cases wide
      · simp at hz
        refine ⟨ob, y, hy, ?_⟩
        show y &&& Tn.low 32 = z
        rw [low_of_set, ← hz]
      · simp at hz
        exact fin ob (hz ▸ hy)
    split
    · rename_i h2
      exact hplain h0 (by omega)
    split
    · rename_i h2
      cases hk : known b with
      | none => exact fin ok_any (may_any z)
      | some q =>
        simp only
        have e := known_may hk hy
        subst e
        subst h0
        have hm : may (of (y &&& less wide)) (y &&& less wide) := may_of _
        have hn := less_toNat wide y
        rw [BitVec.toNat_and] at hn
        have : ∃ z', Alu.go op true 0 x (y &&& less wide) = some z' ∧ (if wide then z' = z else z' &&& Tn.low 32 = z) := by
          unfold Alu.go Alu.gen at hz ⊢
          cases wide
          · have sx := sx rfl
            have sy := sy rfl
            simp only [Bool.false_eq_true, if_false] at hn
            rcases h2 with rfl | rfl
            · simp at hz ⊢
              rw [low_of_set, BitVec.setWidth_shiftLeft_of_le (by omega)] 
              rw [← hz, hn]
              rw [Nat.mod_eq_of_lt (show y.toNat % 32 < 64 by omega)]
            · simp at hz ⊢
              rw [← hz, hn]
              apply BitVec.eq_of_toNat_eq
              rw [and_low32]
              simp only [BitVec.toNat_setWidth, BitVec.toNat_ushiftRight, Nat.shiftRight_eq_div_pow]
              rw [Nat.mod_eq_of_lt (show y.toNat % 32 < 64 by omega)]
              have hx' : x.toNat % 2 ^ 32 = x.toNat := Nat.mod_eq_of_lt sx
              have hx'' : x.toNat % 2 ^ 64 = x.toNat := Nat.mod_eq_of_lt (by omega)
              rw [hx', hx'']
              have := Nat.div_le_self x.toNat (2 ^ (y.toNat % 32))
              generalize x.toNat / 2 ^ (y.toNat % 32) = q at *
              omega
          · simp only [if_true] at hn
            rcases h2 with rfl | rfl
            · simp at hz ⊢
              rw [← hz, hn]; simp
            · simp at hz ⊢
              rw [← hz, hn]; simp
        obtain ⟨z', h3, h4⟩ := this
        have := plainDo_sound hx hm h3
        exact ⟨this.1, z', this.2, h4⟩
    split
    · rename_i h2
      split
      · rename_i hk
        have e := known_may hk hy
        subst e
        subst h0
        unfold Alu.go Alu.gen at hz
        rcases h2 with rfl | rfl
        · simp only [if_true]
          have : z = 0#64 := by cases wide <;> simp at hz <;> exact hz.symm
          rw [this] at fin ⊢
          exact fin (ok_of _) (may_of _)
        · simp only [show ¬ (144 : Int) = 48 by decide, if_false]
          cases wide
          · simp at hz
            refine ⟨oa, x, hx, ?_⟩
            show x &&& Tn.low 32 = z
            rw [low_of_set, ← hz]
          · simp at hz
            exact fin oa (hz ▸ hx)
      · exact hplain h0 (by omega)
    · exact fin ok_any (may_any z)
  unfold makes
  cases hp : known a with
  | none => exact main
  | some p =>
    cases hq : known b with
    | none => exact main
    | some q =>
      simp only
      have e1 := known_may hp hx
      have e2 := known_may hq hy
      subst e1; subst e2
      rw [hz]
      exact fin (ok_of z) (may_of z)

theorem do_sound {op : Int} {wide : Bool} {off : Int} {a b : Fa} {x y z : BitVec 64} (oa : ok a = true) (ob : ok b = true) (hx : may a x) (hy : may b y)
    (hz : Alu.go op wide off x y = some z) : ∃ f, do_ op wide off a b = some f ∧ has f z = true := by
  have hs : (Alu.go op wide off 0#64 0#64).isSome = true := by rw [go_none_iff op wide off _ _ x y, hz]; rfl
  unfold do_
  rw [hs, oa, ob]
  refine ⟨_, rfl, ?_⟩
  rw [has_iff]
  cases wide
  · simp only [Bool.false_eq_true, if_false]
    have c1 := cut_may oa hx
    have c2 := cut_may ob hy
    have hz' : Alu.go op false off (x &&& Tn.low 32) (y &&& Tn.low 32) = some z := by
      rw [← hz]
      unfold Alu.go
      simp only [Bool.false_eq_true, if_false]
      have e : ∀ x : BitVec 64, BitVec.setWidth 32 (x &&& Tn.low 32) = BitVec.setWidth 32 x := by
        intro x
        apply BitVec.eq_of_toNat_eq
        simp only [BitVec.toNat_setWidth, and_low32]
        omega
      rw [e, e]
    have m := makes_sound c1.1 c2.1 c1.2 c2.2 (fun _ => by rw [and_low32]; omega) (fun _ => by rw [and_low32]; omega) hz'
    obtain ⟨m1, z', m2, m3⟩ := m
    simp only [Bool.false_eq_true, if_false] at m3
    have := cut_may m1 m2
    rw [m3] at this
    exact this
  · simp only [if_true]
    obtain ⟨m1, z', m2, m3⟩ := makes_sound oa ob hx hy (fun h => by cases h) (fun h => by cases h) hz
    simp only [if_true] at m3
    subst m3
    exact ⟨m1, m2⟩
theorem do_none {op : Int} {wide : Bool} {off : Int} {a b : Fa} {x y : BitVec 64} (hz : Alu.go op wide off x y = none) : do_ op wide off a b = none := by
  have hs : (Alu.go op wide off 0#64 0#64).isSome = false := by rw [go_none_iff op wide off _ _ x y, hz]; rfl
  unfold do_; rw [hs]; rfl
/-- of numbers that are known what arithmetic makes is known -/
theorem do_known {op : Int} {wide : Bool} {off : Int} {x y z : BitVec 64} (hz : Alu.go op wide off x y = some z) : do_ op wide off (of x) (of y) = some (of z) := by
  have hs : (Alu.go op wide off 0#64 0#64).isSome = true := by rw [go_none_iff op wide off _ _ x y, hz]; rfl
  unfold do_
  rw [hs, ok_of, ok_of]
  simp only [Bool.and_self, if_true]
  cases wide
  · simp only [Bool.false_eq_true, if_false]
    rw [cut_of, cut_of]
    unfold makes
    rw [known_of, known_of]
    simp only
    have hz' : Alu.go op false off (x &&& Tn.low 32) (y &&& Tn.low 32) = some z := by
      rw [← hz]
      unfold Alu.go
      simp only [Bool.false_eq_true, if_false]
      have e : ∀ x : BitVec 64, BitVec.setWidth 32 (x &&& Tn.low 32) = BitVec.setWidth 32 x := by
        intro x
        apply BitVec.eq_of_toNat_eq
        simp only [BitVec.toNat_setWidth, and_low32]
        omega
      rw [e, e]
    rw [hz', Option.getD_some, cut_of]
    unfold Alu.go at hz
    simp only [Bool.false_eq_true, if_false, Option.map_eq_some_iff] at hz
    obtain ⟨q, _, hq⟩ := hz
    rw [low_of_set, ← hq]; simp
  · simp only [if_true]
    unfold makes
    rw [known_of, known_of]
    simp only
    rw [hz, Option.getD_some]
theorem do_isSome {op : Int} {wide : Bool} {off : Int} (x y : BitVec 64) {a b : Fa} (oa : ok a = true) (ob : ok b = true) : (do_ op wide off a b).isSome = (Alu.go op wide off x y).isSome := by
  rw [go_none_iff op wide off x y 0#64 0#64]
  unfold do_; rw [oa, ob]
  cases (Alu.go op wide off 0#64 0#64).isSome <;> rfl

/-- conditions: narrow ones of small numbers, but for signed ones, are as wide ones -/
theorem cond_small {op : Int} {x y : BitVec 64} (hx : x.toNat < 4294967296) (hy : y.toNat < 4294967296) (hs : ¬ (op = 96 ∨ op = 112 ∨ op = 192 ∨ op = 208)) :
    Cond.is op false x y = Cond.is op true x y := by
  have ex := set_small hx
  have ey := set_small hy
  have inj : ∀ {p q : BitVec 32}, p = q ↔ p.toNat = q.toNat := fun {p q} => ⟨fun h => by rw [h], BitVec.eq_of_toNat_eq⟩
  have inj' : ∀ {p q : BitVec 64}, p = q ↔ p.toNat = q.toNat := fun {p q} => ⟨fun h => by rw [h], BitVec.eq_of_toNat_eq⟩
  have beq : (BitVec.setWidth 32 x == BitVec.setWidth 32 y) = (x == y) := by
    rw [Bool.eq_iff_iff, beq_iff_eq, beq_iff_eq, inj, inj', ex, ey]
  have eand : (BitVec.setWidth 32 x &&& BitVec.setWidth 32 y == 0#32) = (x &&& y == 0#64) := by
    rw [Bool.eq_iff_iff, beq_iff_eq, beq_iff_eq, inj, inj', BitVec.toNat_and, BitVec.toNat_and, ex, ey]; exact Iff.rfl
  unfold Cond.is
  simp only [Bool.false_eq_true, if_false, if_true]
  unfold Cond.gen
  simp only [bne, beq, eand, BitVec.lt_def, BitVec.le_def, ex, ey]
  have h1 : ¬ op = 96 := by omega
  have h2 : ¬ op = 112 := by omega
  have h3 : ¬ op = 192 := by omega
  have h4 : ¬ op = 208 := by omega
  simp only [h1, h2, h3, h4, if_false]
/-- a number of which a condition holds is in what If tells of ranges, narrow or not -/
theorem sp_if {op : Int} {wide : Bool} {a b : Sp} {x y : BitVec 64} (hx : a.has x = true) (hy : b.has y = true) (sx : wide = false → x.toNat < 4294967296) (sy : wide = false → y.toNat < 4294967296)
    (hc : Cond.is op wide x y = some true) : ∃ u, Sp.if_ op a b = some u ∧ u.has x = true := by
  by_cases hs : op = 96 ∨ op = 112 ∨ op = 192 ∨ op = 208
  · refine ⟨a, ?_, hx⟩
    unfold Sp.if_
    rw [Sp.right_of_has hx, Sp.right_of_has hy]
    rcases hs with rfl | rfl | rfl | rfl <;> rfl
  · cases wide
    · rw [cond_small (sx rfl) (sy rfl) hs] at hc
      exact Sp.if_sound hx hy hc
    · exact Sp.if_sound hx hy hc
theorem cond_turned {op back : Int} {wide : Bool} {x y : BitVec 64} (h : Cond.turned op = some back) : Cond.is back wide y x = Cond.is op wide x y := by
  unfold Cond.is
  cases wide
  · exact (Cond.gen_turned 32 op back h _ _).symm
  · exact (Cond.gen_turned 64 op back h _ _).symm
theorem settle_sub' {t : Tn} {s r : Sp} {f : Fa} (h : settle ⟨t, r⟩ = some f) {T : Tn} (ht : t.within T = true) (hr : r.within s = true) : ok f = true ∧ sub f ⟨T, s⟩ :=
  ⟨settle_ok h, sub_trans (settle_spec h).2 ⟨ht, hr⟩⟩
theorem ranges_sub {op : Int} {a b x y : Fa} (h : ranges op a b = some (x, y)) : ok x = true ∧ sub x a ∧ ok y = true ∧ sub y b := by
  unfold ranges at h
  cases hr : Sp.if_ op a.s b.s with
  | none => rw [hr] at h; cases h
  | some r =>
    rw [hr] at h
    simp only at h
    have w1 := Sp.if_within hr
    generalize hq : (match Cond.turned op with | none => some b.s | some back => Sp.if_ back b.s a.s) = q at h
    cases q with
    | none => cases h
    | some s =>
      simp only at h
      cases hx : settle ⟨a.t, r⟩ with
      | none => rw [hx] at h; cases h
      | some x' =>
        rw [hx] at h
        simp only at h
        cases hy : settle ⟨b.t, s⟩ with
        | none => rw [hy] at h; cases h
        | some y' =>
          rw [hy] at h
          simp only [Option.some.injEq, Prod.mk.injEq] at h
          obtain ⟨rfl, rfl⟩ := h
          have r1 := settle_spec hx
          have r2 := settle_spec hy
          have f1 := (Tn.within_iff _ _).1 r1.2.1
          have f2 := (Tn.within_iff _ _).1 r2.2.1
          have k1 := settle_sub' hx (Tn.within_refl f1.2.1) w1
          have w2 : s.within b.s = true := by
            cases ht : Cond.turned op with
            | none =>
              rw [ht] at hq
              simp only [Option.some.injEq] at hq
              subst hq
              have := (Sp.within_iff _ _).1 r2.2.2
              rw [Sp.within_iff]; simp only at this; omega
            | some back =>
              rw [ht] at hq
              simp only at hq
              exact Sp.if_within hq
          have k2 := settle_sub' hy (Tn.within_refl f2.2.1) w2
          exact ⟨k1.1, k1.2, k2.1, k2.2⟩
theorem ranges_sound {op : Int} {wide : Bool} {a b : Fa} {x y : BitVec 64} (hx : may a x) (hy : may b y) (sx : wide = false → x.toNat < 4294967296) (sy : wide = false → y.toNat < 4294967296)
    (hc : Cond.is op wide x y = some true) : ∃ f g, ranges op a b = some (f, g) ∧ may f x ∧ may g y := by
  obtain ⟨r, hr, h1⟩ := sp_if hx.2 hy.2 sx sy hc
  have : ∃ s, (match Cond.turned op with | none => some b.s | some back => Sp.if_ back b.s a.s) = some s ∧ s.has y = true := by
    cases ht : Cond.turned op with
    | none => exact ⟨b.s, rfl, hy.2⟩
    | some back =>
      simp only
      exact sp_if hy.2 hx.2 sy sx (by rw [cond_turned ht]; exact hc)
  obtain ⟨s, hs, h2⟩ := this
  obtain ⟨f, hf, h3⟩ := settle_may (f := ⟨a.t, r⟩) ⟨hx.1, h1⟩
  obtain ⟨g, hg, h4⟩ := settle_may (f := ⟨b.t, s⟩) ⟨hy.1, h2⟩
  refine ⟨f, g, ?_, h3, h4⟩
  unfold ranges
  rw [hr]
  simp only [hs, hf, hg]
theorem sub_of_meet {a f : Fa} {t : Tn} (h : sub f ⟨t, a.s⟩) (ht : t.within a.t = true) : sub f a := ⟨Tn.within_trans h.1 ht, h.2⟩
theorem if'_sub {op : Int} {wide : Bool} {a b x y : Fa} (oa : ok a = true) (ob : ok b = true) (h : if' op wide a b = some (x, y)) : ok x = true ∧ sub x a ∧ ok y = true ∧ sub y b := by
  have ra := ok_right oa
  have rb := ok_right ob
  unfold if' at h
  split at h
  · simp only [Option.some.injEq, Prod.mk.injEq] at h
    obtain ⟨rfl, rfl⟩ := h
    exact ⟨oa, sub_refl ra.1 ra.2, ob, sub_refl rb.1 rb.2⟩
  · split at h
    · split at h
      · rename_i hm
        obtain ⟨h1, h2, h3, h4⟩ := ranges_sub h
        exact ⟨h1, ⟨Tn.within_trans h2.1 (Tn.meet_within_l hm), h2.2⟩, h3, ⟨Tn.within_trans h4.1 (Tn.meet_within_r hm), h4.2⟩⟩
      · cases h
    · exact ranges_sub h
theorem if_within {op : Int} {wide : Bool} {a b x y : Fa} (h : if_ op wide a b = some (x, y)) : within x a = true ∧ within y b = true := by
  rw [within_iff, within_iff]
  unfold if_ at h
  split at h
  · rename_i hr
    rw [Bool.and_eq_true] at hr
    have ra := ok_right hr.1
    have rb := ok_right hr.2
    have gen : ok x = true ∧ sub x a ∧ ok y = true ∧ sub y b → (ok x = true ∧ ok a = true ∧ sub x a) ∧ ok y = true ∧ ok b = true ∧ sub y b :=
      fun ⟨h1, h2, h3, h4⟩ => ⟨⟨h1, hr.1, h2⟩, h3, hr.2, h4⟩
    split at h
    · split at h
      · simp only [Option.some.injEq, Prod.mk.injEq] at h
        obtain ⟨rfl, rfl⟩ := h
        exact gen ⟨hr.1, sub_refl ra.1 ra.2, hr.2, sub_refl rb.1 rb.2⟩
      · cases h
    · exact gen (if'_sub hr.1 hr.2 h)
  · cases h
theorem if_sound {op : Int} {wide : Bool} {a b : Fa} {x y : BitVec 64} (oa : ok a = true) (ob : ok b = true) (hx : may a x) (hy : may b y) (hc : Cond.is op wide x y = some true) :
    ∃ f g, if_ op wide a b = some (f, g) ∧ has f x = true ∧ has g y = true := by
  have main : ∃ f g, if' op wide a b = some (f, g) ∧ may f x ∧ may g y := by
    unfold if'
    split
    · exact ⟨a, b, rfl, hx, hy⟩
    · rename_i hn
      have sm : wide = false → x.toNat < 4294967296 ∧ y.toNat < 4294967296 := by
        intro hw
        have h1 : ¬ 4294967296#64 ≤ a.s.hi := fun h => hn ⟨hw, .inl h⟩
        have h2 : ¬ 4294967296#64 ≤ b.s.hi := fun h => hn ⟨hw, .inr h⟩
        rw [BitVec.le_def] at h1 h2
        have e : (4294967296#64).toNat = 4294967296 := rfl
        have h3 := (Sp.has_iff _ _).1 hx.2
        have h4 := (Sp.has_iff _ _).1 hy.2
        omega
      split
      · rename_i h16
        subst h16
        have e : x = y := by
          unfold Cond.is Cond.gen at hc
          cases wide
          · simp at hc
            have ⟨s1, s2⟩ := sm rfl
            have := congrArg BitVec.toNat hc
            rw [set_small s1, set_small s2] at this
            exact BitVec.eq_of_toNat_eq this
          · simpa using hc
        subst e
        have m := Tn.meet_has a.t b.t x
        rw [hx.1, hy.1] at m
        simp only [Bool.and_self] at m
        have m := m.symm
        rw [Bool.and_eq_true] at m
        rw [if_pos m.1]
        exact ranges_sound (a := ⟨Tn.meet a.t b.t, a.s⟩) (b := ⟨Tn.meet a.t b.t, b.s⟩) ⟨m.2, hx.2⟩ ⟨m.2, hy.2⟩ (fun h => (sm h).1) (fun h => (sm h).2) hc
      · exact ranges_sound hx hy (fun h => (sm h).1) (fun h => (sm h).2) hc
  unfold if_
  rw [oa, ob]
  simp only [Bool.and_self, if_true]
  have side : ∀ {f g : Fa}, ok f = true → ok g = true → may f x → may g y → has f x = true ∧ has g y = true := fun h1 h2 h3 h4 => ⟨has_iff.2 ⟨h1, h3⟩, has_iff.2 ⟨h2, h4⟩⟩
  have use : ∃ f g, if' op wide a b = some (f, g) ∧ has f x = true ∧ has g y = true := by
    obtain ⟨f, g, h1, h2, h3⟩ := main
    have k := if'_sub oa ob h1
    exact ⟨f, g, h1, side k.1 k.2.2.1 h2 h3⟩
  cases hp : known a with
  | none => exact use
  | some p =>
    cases hq : known b with
    | none => exact use
    | some q =>
      simp only
      have e1 := known_may hp hx
      have e2 := known_may hq hy
      subst e1; subst e2
      rw [if_pos hc]
      exact ⟨a, b, rfl, side oa ob hx hy⟩

/-! the statements' own: facts that are made -/
theorem within_of {o : BitVec 64} {f : Fa} : within (of o) f = has f o := by
  rw [Bool.eq_iff_iff, within_iff, has_iff]
  constructor
  · rintro ⟨_, h, k⟩; exact ⟨h, sub_may k (may_of o)⟩
  · rintro ⟨h, k⟩
    refine ⟨ok_of o, h, ?_⟩
    refine ⟨(Tn.within_of o f.t).trans k.1, ?_⟩
    have := (Sp.has_iff _ _).1 k.2
    rw [Sp.within_iff]; simp only [of]; omega
theorem known_eq {f : Fa} {k : BitVec 64} (h : known f = some k) : f = of k := by
  unfold known at h
  split at h
  · rename_i h1
    obtain ⟨hm, ho⟩ := h1
    rw [ok_iff] at ho
    simp only [Option.some.injEq] at h
    have h2 := fix_of f ho
    have et : f.t = Tn.of k := by cases hf : f.t; rw [hf] at h hm; simp only at h hm; rw [h, hm]; rfl
    refine of_eq ⟨?_, ?_⟩ h2.1
    · rw [et]; exact Tn.within_refl (Tn.right_of k)
    · have := h2.2.2.1
      rw [et] at this
      have e : hull (Tn.of k) = (of k).s := by unfold hull of Tn.of; simp
      rw [e] at this; exact this
  · cases h
end Fa
end Hk

namespace Hk
open Go
namespace Fa
theorem eta (f : Fa) : Fa.mk f.t f.s = f := rfl
theorem msk_is (k : Nat) (h : k ≤ 64) : 1#64 <<< k - 1#64 = msk k := by
  apply BitVec.eq_of_toNat_eq
  unfold msk
  have e1 : (1#64).toNat = 1 := rfl
  have e2 : (BitVec.ofNat 64 (2 ^ k - 1)).toNat = (2 ^ k - 1) % 2 ^ 64 := BitVec.toNat_ofNat ..
  rw [BitVec.toNat_sub, BitVec.toNat_shiftLeft, Nat.shiftLeft_eq, e1, e2, Nat.one_mul]
  have hp := Nat.two_pow_pos k
  rcases Nat.lt_or_ge k 64 with h1 | h1
  · have : (2 : Nat) ^ k < 2 ^ 64 := Nat.pow_lt_pow_right (by omega) h1
    omega
  · obtain rfl : k = 64 := by omega
    rfl
/-- how many bits a word takes (a plain definition: no rule of simp goes behind it) -/
def lnW (x : BitVec 64) : Nat := ln x.toNat
theorem ranged_W (s : Sp) : ranged s = ⟨s.lo &&& ~~~msk (lnW (s.lo ^^^ s.hi)), msk (lnW (s.lo ^^^ s.hi))⟩ := rfl
theorem ln_64 (x : BitVec 64) : ln x.toNat ≤ 64 := ln_le x.isLt
theorem meet_both {a b : Sp} (h : Sp.meetOk a b = true) : Sp.meet a b = Sp.both a b := by unfold Sp.meet; rw [if_pos h]
section
variable {g : Fa} {s : Sp} {t : Tn} (hs : Sp.meet g.s ⟨g.t.v, g.t.v ||| g.t.m⟩ = s) (ht : Tn.meet g.t (ranged s) = t)
theorem round_n1 (h : Sp.meetOk g.s ⟨g.t.v, g.t.v ||| g.t.m⟩ = false) : round g = none := by
  unfold round; rw [if_neg (by unfold hull; rw [h]; decide)]
include hs in
theorem round_n2 (h : Sp.meetOk g.s ⟨g.t.v, g.t.v ||| g.t.m⟩ = true) (h2 : Tn.meetOk g.t (ranged s) = false) : round g = none := by
  rw [meet_both h] at hs
  subst hs
  unfold round; rw [if_pos (by unfold hull; exact h), if_neg (by unfold hull; rw [h2]; decide)]
include hs ht in
theorem round_s (h : Sp.meetOk g.s ⟨g.t.v, g.t.v ||| g.t.m⟩ = true) (h2 : Tn.meetOk g.t (ranged s) = true) : round g = some ⟨t, s⟩ := by
  rw [meet_both h] at hs
  subst hs
  subst ht
  unfold round; rw [if_pos (by unfold hull; exact h), if_pos (by unfold hull; exact h2)]; rfl
end
theorem iter_none {g : Fa} (n : Nat) (h : round g = none) : iter (n + 1) g = none := by simp only [iter, h]
theorem iter_same {g g' : Fa} (n : Nat) (h : round g = some g') (e : g'.t = g.t) : iter (n + 1) g = some g' := by simp only [iter, h]; rw [if_pos e]
theorem iter_go {g g' : Fa} (n : Nat) (h : round g = some g') (e : ¬ g'.t = g.t) : iter (n + 1) g = iter n g' := by simp only [iter, h]; rw [if_neg e]
theorem round_cnt {g g' : Fa} (h : round g = some g') (e : ¬ g'.t = g.t) : cnt g'.t.m 64 < cnt g.t.m 64 := by
  obtain ⟨_, h2, rfl⟩ := round_some h
  exact meet_cnt h2 e
/-- the rounds that are left -/
def Left (R : Option Fa) (n : Nat) (g : Fa) : Prop := iter n g = R ∧ cnt g.t.m 64 < n
theorem left_start {f : Fa} (h1 : f.t.right = true) (h2 : f.s.right = true) : Left (settle f) 65 f := by
  refine ⟨?_, ?_⟩
  · unfold settle; rw [h1, h2]; rfl
  · have := cnt_bound f.t.m 64; omega
theorem settle_no1 {f : Fa} (h1 : f.t.right = false) : settle f = none := by unfold settle; rw [h1]; rfl
theorem settle_no2 {f : Fa} (h1 : f.t.right = true) (h2 : f.s.right = false) : settle f = none := by unfold settle; rw [h1, h2]; rfl
theorem left_pos {R : Option Fa} {n : Nat} {g : Fa} (h : Left R n g) : ∃ m, n = m + 1 := ⟨n - 1, by have := h.2; omega⟩
theorem left_none {R : Option Fa} {n : Nat} {g : Fa} (h : Left R (n + 1) g) (hr : round g = none) : R = none := by rw [← h.1, iter_none n hr]
theorem left_same {R : Option Fa} {n : Nat} {g g' : Fa} (h : Left R (n + 1) g) (hr : round g = some g') (e : g'.t = g.t) : R = some g' := by rw [← h.1, iter_same n hr e]
theorem left_go {R : Option Fa} {n : Nat} {g g' : Fa} (h : Left R (n + 1) g) (hr : round g = some g') (e : ¬ g'.t = g.t) : Left R n g' := by
  have := round_cnt hr e
  have h2 := h.2
  exact ⟨by rw [← h.1, iter_go n hr e], by omega⟩
theorem tn_ne {a b : Tn} (h : (a.v == b.v) = false ∨ (a.m == b.m) = false) : ¬ a = b := by
  intro e; subst e; simp at h
theorem tn_eq {a b : Tn} (h1 : (a.v == b.v) = true) (h2 : (a.m == b.m) = true) : a = b := by
  cases a; cases b; simp at h1 h2; rw [h1, h2]
end Fa
attribute [go_sem] Fa.eta
end Hk

namespace Hk
open Go
namespace Fa
theorem ok_none {f : Fa} (h : settle f = none) : ok f = false := by unfold ok; rw [h]; rfl
theorem ok_same {f : Fa} (h : settle f = some f) : ok f = true := by unfold ok; rw [h]; simp
theorem ok_ne {f g : Fa} (h : settle f = some g) (e : ¬ g = f) : ok f = false := by unfold ok; rw [h]; simpa using e
theorem fa_eq {f g : Fa} (e0 : (f.t.v == g.t.v) = true) (e1 : (f.t.m == g.t.m) = true) (e2 : (f.s.lo == g.s.lo) = true) (e3 : (f.s.hi == g.s.hi) = true) : g = f := by
  obtain ⟨⟨a, b⟩, ⟨c, d⟩⟩ := f
  obtain ⟨⟨a', b'⟩, ⟨c', d'⟩⟩ := g
  simp at e0 e1 e2 e3
  rw [e0, e1, e2, e3]
theorem known_is (f : Fa) : known f = if (f.t.m == 0#64) && ok f then some f.t.v else none := by
  unfold known
  by_cases h : f.t.m = 0#64
  · cases h2 : ok f <;> simp [h]
  · have : (f.t.m == 0#64) = false := by simpa using h
    rw [this, if_neg (fun q => h q.1)]; rfl
theorem join_no1 {a b : Fa} (h : ok a = false) : join a b = zero := by unfold join; rw [h]; rfl
theorem join_no2 {a b : Fa} (h : ok a = true) (h2 : ok b = false) : join a b = zero := by unfold join; rw [h, h2]; rfl
theorem join_yes {a b : Fa} (h : ok a = true) (h2 : ok b = true) : join a b = settled (Tn.join a.t b.t) (Sp.join a.s b.s) := by unfold join; rw [h, h2]; rfl
theorem cut_no {f : Fa} (h : ok f = false) : cut f = zero := by unfold cut; rw [h]; rfl
theorem cutI_32 {f : Fa} (h : ok f = true) : Tn.cutI f.t 32 = Tn.cut f.t 32 := Tn.cutI_in (ok_right h).1 (by omega) (by omega)
theorem cut_t {f : Fa} (h : ok f = true) (h2 : decide (4294967296#64 ≤ f.s.hi) = true) : cut f = settled (Tn.cutI f.t 32) ⟨0#64, 4294967295#64⟩ := by
  rw [cutI_32 h]; unfold cut cutS; rw [h, if_pos rfl, if_pos (of_decide_eq_true h2)]; rfl
theorem cut_f {f : Fa} (h : ok f = true) (h2 : decide (4294967296#64 ≤ f.s.hi) = false) : cut f = settled (Tn.cutI f.t 32) f.s := by
  rw [cutI_32 h]; unfold cut cutS; rw [h, if_pos rfl, if_neg (of_decide_eq_false h2)]
theorem zero_tv : zero.t.v = 0#64 := rfl
theorem zero_tm : zero.t.m = 0#64 := rfl
theorem zero_slo : zero.s.lo = 0#64 := rfl
theorem zero_shi : zero.s.hi = 0#64 := rfl
end Fa
attribute [go_sem] Fa.zero_tv Fa.zero_tm Fa.zero_slo Fa.zero_shi
end Hk

namespace Hk
namespace Fa
/-- a fact that a number may be, as the statements make it -/
def mkf (n k l m : BitVec 64) : Fa := ⟨⟨n &&& k, ~~~k⟩, ⟨n - Sp.mn n l, n + Sp.mn (~~~n) m⟩⟩
def made (n k l m : BitVec 64) : Fa := (settle (mkf n k l m)).getD zero
theorem mkf_may (n k l m : BitVec 64) : may (mkf n k l m) n := by
  constructor
  · rw [Tn.has_iff]
    intro i hi
    show bt (n &&& k) i = (bt n i && !bt (~~~k) i)
    rw [bt_and, bt_not _ _ hi, Bool.not_not]
  · rw [Sp.has_iff]
    show (n - Sp.mn n l).toNat ≤ n.toNat ∧ n.toNat ≤ (n + Sp.mn (~~~n) m).toNat
    have h1 := n.isLt
    have h2 : (Sp.mn n l).toNat ≤ n.toNat := by rw [Sp.mn_nat]; omega
    have h3 : (Sp.mn (~~~n) m).toNat ≤ 2 ^ 64 - 1 - n.toNat := by rw [Sp.mn_nat, BitVec.toNat_not]; omega
    rw [BitVec.toNat_sub, BitVec.toNat_add]
    omega
theorem made_spec (n k l m : BitVec 64) : settle (mkf n k l m) = some (made n k l m) ∧ ok (made n k l m) = true ∧ may (made n k l m) n := by
  obtain ⟨g, h1, h2⟩ := settle_may (mkf_may n k l m)
  have e : made n k l m = g := by unfold made; rw [h1]; rfl
  rw [e]
  exact ⟨h1, settle_ok h1, h2⟩
end Fa
end Hk

namespace Hk
open Go
namespace Fa
theorem makes_both {op off : Int} {wd : Bool} {x y : Fa} {p q : BitVec 64} (hx : known x = some p) (hy : known y = some q) : makes op wd off x y = of (Alu.val (Alu.go op wd off p q)) := by
  unfold makes; rw [hx, hy]; rfl
def NB (x y : Fa) : Prop := known x = none ∨ known y = none
theorem makes_nb {op off : Int} {wd : Bool} {x y : Fa} (h : NB x y) : makes op wd off x y = makes' op wd off x y := by
  unfold makes
  rcases h with h | h
  · rw [h]
  · rw [h]; cases known x <;> rfl
section
variable {wd : Bool} {x y : Fa} (h : NB x y)
include h
theorem mk_off {op off : Int} (h0 : ¬ off = 0) : makes op wd off x y = any := by rw [makes_nb h]; unfold makes'; rw [if_pos h0]
theorem mk_mov : makes 176 wd 0 x y = y := by rw [makes_nb h]; rfl
theorem mk_add : makes 0 wd 0 x y = plainDo 0 x y := by rw [makes_nb h]; rfl
theorem mk_sub : makes 16 wd 0 x y = plainDo 16 x y := by rw [makes_nb h]; rfl
theorem mk_mul : makes 32 wd 0 x y = plainDo 32 x y := by rw [makes_nb h]; rfl
theorem mk_and : makes 80 wd 0 x y = plainDo 80 x y := by rw [makes_nb h]; rfl
theorem mk_or : makes 64 wd 0 x y = plainDo 64 x y := by rw [makes_nb h]; rfl
theorem mk_xor : makes 160 wd 0 x y = plainDo 160 x y := by rw [makes_nb h]; rfl
theorem mk_lsh0 (hy : known y = none) : makes 96 wd 0 x y = any := by rw [makes_nb h]; unfold makes'; rw [hy]; rfl
theorem mk_rsh0 (hy : known y = none) : makes 112 wd 0 x y = any := by rw [makes_nb h]; unfold makes'; rw [hy]; rfl
theorem mk_lsh1 {q : BitVec 64} (hy : known y = some q) : makes 96 wd 0 x y = plainDo 96 x (of (q &&& less wd)) := by rw [makes_nb h]; unfold makes'; rw [hy]; rfl
theorem mk_rsh1 {q : BitVec 64} (hy : known y = some q) : makes 112 wd 0 x y = plainDo 112 x (of (q &&& less wd)) := by rw [makes_nb h]; unfold makes'; rw [hy]; rfl
theorem mk_div0 (hy : ¬ known y = some 0#64) : makes 48 wd 0 x y = plainDo 48 x y := by rw [makes_nb h]; unfold makes'; simp [hy]
theorem mk_mod0 (hy : ¬ known y = some 0#64) : makes 144 wd 0 x y = plainDo 144 x y := by rw [makes_nb h]; unfold makes'; simp [hy]
theorem mk_div1 (hy : known y = some 0#64) : makes 48 wd 0 x y = of 0#64 := by rw [makes_nb h]; unfold makes'; simp [hy]
theorem mk_mod1 (hy : known y = some 0#64) : makes 144 wd 0 x y = x := by rw [makes_nb h]; unfold makes'; simp [hy]
theorem mk_else {op : Int} (n176 : ¬ op = 176) (n0 : ¬ op = 0) (n16 : ¬ op = 16) (n32 : ¬ op = 32) (n80 : ¬ op = 80) (n64 : ¬ op = 64) (n160 : ¬ op = 160) (n96 : ¬ op = 96) (n112 : ¬ op = 112) (n48 : ¬ op = 48) (n144 : ¬ op = 144) : makes op wd 0 x y = any := by
  rw [makes_nb h]; unfold makes'; simp [n176, n0, n16, n32, n80, n64, n160, n96, n112, n48, n144]
end
theorem plain_none {op : Int} {x y : Fa} (h : Tn.do_ op x.t y.t = none) : plainDo op x y = settled any.t (Sp.do_ op x.s y.s) := by unfold plainDo; rw [h]; rfl
theorem plain_some {op : Int} {x y : Fa} {t : Tn} (h : Tn.do_ op x.t y.t = some t) : plainDo op x y = settled t (Sp.do_ op x.s y.s) := by unfold plainDo; rw [h]; rfl
theorem of_t (n : BitVec 64) : (of n).t = ⟨n, 0#64⟩ := rfl
theorem of_s (n : BitVec 64) : (of n).s = ⟨n, n⟩ := rfl
end Fa
end Hk

namespace Hk
namespace Fa
theorem fdo_no0 {op off : Int} {wd : Bool} {a b : Fa} (h : Alu.go op wd off 0#64 0#64 = none) : do_ op wd off a b = none := by unfold do_; rw [h]; rfl
theorem fdo_no1 {op off : Int} {wd : Bool} {a b : Fa} (h : ok a = false) : do_ op wd off a b = none := by unfold do_; rw [h]; simp
theorem fdo_no2 {op off : Int} {wd : Bool} {a b : Fa} (h : ok b = false) : do_ op wd off a b = none := by unfold do_; rw [h]; simp
theorem fdo_w {op off : Int} {a b : Fa} {z : BitVec 64} (h : Alu.go op true off 0#64 0#64 = some z) (h1 : ok a = true) (h2 : ok b = true) : do_ op true off a b = some (makes op true off a b) := by unfold do_; rw [h, h1, h2]; rfl
theorem fdo_n {op off : Int} {a b : Fa} {z : BitVec 64} (h : Alu.go op false off 0#64 0#64 = some z) (h1 : ok a = true) (h2 : ok b = true) : do_ op false off a b = some (cut (makes op false off (cut a) (cut b))) := by unfold do_; rw [h, h1, h2]; rfl
end Fa
end Hk

namespace Hk
open Go
namespace Fa
theorem shr_mod (x : BitVec 64) (m : Nat) : x >>> m % 2#64 = if bt x m then 1#64 else 0#64 := by
  have h := bit_mod x m
  cases hb : bt x m
  · rw [hb] at h
    have h' : ¬ x >>> m % 2#64 = 1#64 := by simpa using h
    have hl : (x >>> m % 2#64).toNat < 2 := by rw [BitVec.toNat_umod]; exact Nat.mod_lt _ (by decide)
    apply BitVec.eq_of_toNat_eq
    have e0 : (1#64).toNat = 1 := rfl
    have : ¬ (x >>> m % 2#64).toNat = 1 := fun e => h' (BitVec.eq_of_toNat_eq (by rw [e0]; exact e))
    show _ = 0
    omega
  · rw [hb] at h; simpa using h
theorem shr_step (x : BitVec 64) (m : Nat) : x >>> m = x >>> (m + 1) * 2#64 + (if bt x m then 1#64 else 0#64) := by
  rw [← shr_mod]
  apply BitVec.eq_of_toNat_eq
  have e2 : (2#64).toNat = 2 := rfl
  rw [BitVec.toNat_add, BitVec.toNat_mul, BitVec.toNat_umod, e2, BitVec.toNat_ushiftRight, BitVec.toNat_ushiftRight, Nat.shiftRight_succ]
  have h := x.isLt
  have h1 : x.toNat >>> m ≤ x.toNat := by rw [Nat.shiftRight_eq_div_pow]; exact Nat.div_le_self _ _
  omega
def rL (s : Sp) : Nat := lnW (s.lo ^^^ s.hi)
def rV (s : Sp) : BitVec 64 := s.lo &&& ~~~msk (rL s)
def rM (s : Sp) : BitVec 64 := msk (rL s)
theorem ranged_r (s : Sp) : ranged s = ⟨rV s, rM s⟩ := rfl
theorem rL_le (s : Sp) : rL s ≤ 64 := ln_64 _
theorem shr_all (x : BitVec 64) : x >>> 64 = 0#64 := bt_ext fun i hi => by rw [bt_shr, bt_ge _ _ (by omega), bt_zero]
theorem bt_rV (s : Sp) (m : Nat) (h : m < 64) : bt (rV s) m = (bt s.lo m && !decide (m < rL s)) := by
  unfold rV; rw [bt_and, bt_not _ _ h, bt_msk _ _ h]
theorem bt_rM (s : Sp) (m : Nat) (h : m < 64) : bt (rM s) m = decide (m < rL s) := bt_msk _ _ h
theorem unl (s : Sp) (m : Nat) (_h : m < 64) : decide (m < rL s) = (decide (m + 1 < rL s) || (bt s.lo m != bt s.hi m)) := by
  have ht : top (rL s) s.lo s.hi := top_ln s.lo s.hi
  rw [Bool.eq_iff_iff]
  simp only [Bool.or_eq_true, decide_eq_true_iff, bne_iff_ne, ne_eq]
  constructor
  · intro hm
    apply Classical.byContradiction
    intro hc
    have h1 : ¬ m + 1 < rL s := fun q => hc (.inl q)
    have h2 : bt s.lo m = bt s.hi m := Classical.byContradiction fun q => hc (.inr q)
    have h3 : top m s.lo s.hi := top_of_bits fun i hi => by
      rcases Nat.eq_or_lt_of_le hi with e | e
      · subst e; exact h2
      · exact top_bit ht i (by omega)
    have h4 : ln (s.lo ^^^ s.hi).toNat ≤ m := ln_of_top h3
    have h5 : rL s ≤ m := h4
    omega
  · rintro (hm | hm)
    · omega
    · apply Classical.byContradiction
      intro hc
      exact hm (top_bit ht m (by omega))
theorem stepV (s : Sp) (m : Nat) (h : m < 64) : rV s >>> m = rV s >>> (m + 1) * 2#64 + (if bt s.lo m && !decide (m < rL s) then 1#64 else 0#64) := by rw [shr_step, bt_rV s m h]
theorem stepM (s : Sp) (m : Nat) (h : m < 64) : rM s >>> m = rM s >>> (m + 1) * 2#64 + (if decide (m < rL s) then 1#64 else 0#64) := by rw [shr_step, bt_rM s m h]
theorem start0 (s : Sp) : rV s >>> 64 = 0#64 ∧ rM s >>> 64 = 0#64 ∧ decide (64 < rL s) = false := ⟨shr_all _, shr_all _, by have := rL_le s; simp; omega⟩
theorem end0 (x : BitVec 64) : x >>> 0 = x := by simp
/-- how far the reference's rounds are: bits still change, or the fact is settled -/
def Ph (R : Option Fa) (i : Nat) (g : Fa) : Prop := (∃ n, Left R n g ∧ i + n = 65) ∨ (R = some g ∧ round g = some g ∧ i ≤ 66)
theorem ph_start {f : Fa} (h1 : f.t.right = true) (h2 : f.s.right = true) : Ph (settle f) 0 f := .inl ⟨65, left_start h1 h2, rfl⟩
theorem ph_le {R : Option Fa} {i : Nat} {g : Fa} (h : Ph R i g) : i ≤ 66 := by
  rcases h with ⟨n, _, h⟩ | ⟨_, _, h⟩ <;> omega
theorem ph_none {R : Option Fa} {i : Nat} {g : Fa} (h : Ph R i g) (hr : round g = none) : R = none := by
  rcases h with ⟨n, h, _⟩ | ⟨_, h, _⟩
  · obtain ⟨m, rfl⟩ := left_pos h; exact left_none h hr
  · rw [h] at hr; cases hr
theorem ph_same {R : Option Fa} {i : Nat} {g : Fa} (h : Ph R i g) (hr : round g = some g) : R = some g := by
  rcases h with ⟨n, h, _⟩ | ⟨h, _, _⟩
  · obtain ⟨m, rfl⟩ := left_pos h; exact left_same h hr rfl
  · exact h
theorem ph_next {R : Option Fa} {i : Nat} {g g' : Fa} (h : Ph R i g) (hr : round g = some g') (hn : ¬ g' = g) : Ph R (i + 1) g' := by
  rcases h with ⟨n, h, hi⟩ | ⟨_, h, _⟩
  · obtain ⟨m, rfl⟩ := left_pos h
    by_cases e : g'.t = g.t
    · exact .inr ⟨left_same h hr e, round_fix hr e, by omega⟩
    · exact .inl ⟨m, left_go h hr e, by omega⟩
  · rw [h] at hr; cases hr; exact absurd rfl hn
theorem beq_c {a b : BitVec 64} (h : (a == b) = true) : (b == a) = true := by rw [beq_iff_eq] at *; exact h.symm
end Fa
end Hk

