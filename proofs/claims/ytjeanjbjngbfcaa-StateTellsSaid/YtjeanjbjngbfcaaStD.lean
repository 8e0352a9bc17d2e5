/- What is known of registers and the stack: the document's words in plain Lean, no program in sight. No condition but those in each statement. -/
import Derived.Test.YtjeanjbjngbfcaaSt
import Derived.Test.YtjeanjbjngbfcaaVlLaw
namespace Hk
set_option linter.unusedVariables false
def Sl.ok (x : Sl) : Bool := Vl.right x.v && (decide (x.v.k = 0) || (x.p == 255#8))
namespace St
def zero : St := ⟨fun _ => Vl.zero, fun _ => ⟨Vl.zero, 0#8⟩⟩
def first : St := (zero.setR 1 ⟨2, Fa.zero, 0, 0⟩).setR 10 ⟨3, Fa.zero, 0, 512⟩
def upR (x : St) (k : Nat) : Bool := (List.range k).all fun i => Vl.right (x.r i)
def upS (x : St) (k : Nat) : Bool := (List.range k).all fun i => Sl.ok (x.s i)
def right (x : St) : Bool := x.upR 11 && x.upS 64
theorem all_succ (f : Nat → Bool) (k : Nat) : (List.range (k + 1)).all f = ((List.range k).all f && f k) := by
  rw [List.range_succ, List.all_append]; simp
theorem all_false {f : Nat → Bool} {k n : Nat} (h : f k = false) (hk : k < n) : (List.range n).all f = false := by
  cases e : (List.range n).all f
  · rfl
  · rw [List.all_eq_true] at e
    have := e k (by simpa using hk)
    rw [h] at this; cases this
theorem all_iff {f : Nat → Bool} {n : Nat} : (List.range n).all f = true ↔ ∀ k, k < n → f k = true := by
  rw [List.all_eq_true]
  constructor
  · intro h k hk; exact h k (by simpa using hk)
  · intro h k hk; exact h k (by simpa using hk)
theorem upR_zero (x : St) : x.upR 0 = true := rfl
theorem upS_zero (x : St) : x.upS 0 = true := rfl
theorem upR_succ {x : St} {k : Nat} (h : x.upR k = true) (h2 : Vl.right (x.r k) = true) : x.upR (k + 1) = true := by
  unfold upR at h ⊢; rw [all_succ, h, h2]; rfl
theorem upS_succ {x : St} {k : Nat} (h : x.upS k = true) (h2 : Sl.ok (x.s k) = true) : x.upS (k + 1) = true := by
  unfold upS at h ⊢; rw [all_succ, h, h2]; rfl
theorem right_noR {x : St} {k : Nat} (hk : k < 11) (h : Vl.right (x.r k) = false) : x.right = false := by
  unfold right upR; rw [all_false h hk]; rfl
theorem right_noS {x : St} {k : Nat} (hk : k < 64) (h : Sl.ok (x.s k) = false) : x.right = false := by
  unfold right upS; rw [all_false h hk]; simp
theorem right_yes {x : St} (h : x.upR 11 = true) (h2 : x.upS 64 = true) : x.right = true := by unfold right; rw [h, h2]; rfl
theorem right_r {x : St} (h : x.right = true) {k : Nat} (hk : k < 11) : Vl.right (x.r k) = true := by
  unfold right at h; rw [Bool.and_eq_true] at h; exact all_iff.1 h.1 k hk
theorem right_s {x : St} (h : x.right = true) {k : Nat} (hk : k < 64) : Sl.ok (x.s k) = true := by
  unfold right at h; rw [Bool.and_eq_true] at h; exact all_iff.1 h.2 k hk
def sized (n : Int) : Bool := decide (n = 1) || decide (n = 2) || decide (n = 4) || decide (n = 8)
def fitsE (o n : Int) : Int := if o < 0 ∨ 512 - n < o then 80 else if o % n = 0 then 0 else 130
def bits (o n : Int) : BitVec 8 := ((1#8 <<< n.toNat) - 1#8) <<< (o % 8).toNat
def setOk (x : St) (i : Int) (v : Vl) : Bool := !decide (i < 0) && !decide (10 < i) && Vl.right v && x.right
def set (x : St) (i : Int) (v : Vl) : St := if x.setOk i v then x.setR i.toNat v else zero
def putArg (x : St) (n : Int) (v : Vl) : Bool := sized n && Vl.right v && !decide (v.k = 0) && !(decide (n < 8) && !decide (v.k = 1)) && x.right
def putE (x : St) (o n : Int) (v : Vl) : Int := if x.putArg n v then fitsE o n else 1
/-- what stands in a slot behind something that was put there -/
def put1 (x : St) (o n : Int) (v : Vl) : St := (x.setP (o.toNat / 8) ((x.s (o.toNat / 8)).p ||| bits o n)).setV (o.toNat / 8) (if n = 8 then v else Vl.zero)
def put (x : St) (o n : Int) (v : Vl) : St := if x.putE o n v = 0 then x.put1 o n v else zero
theorem setOk_r {x : St} {i : Int} {v : Vl} (h : x.setOk i v = true) : 0 ≤ i ∧ i ≤ 10 ∧ Vl.right v = true ∧ x.right = true := by
  unfold setOk at h
  simp only [Bool.and_eq_true, Bool.not_eq_true', decide_eq_false_iff_not] at h
  exact ⟨by omega, by omega, h.1.2, h.2⟩
theorem fits_in {o n : Int} (h : fitsE o n = 0) (hn : 0 < n) : 0 ≤ o ∧ o ≤ 512 - n ∧ o % n = 0 := by
  unfold fitsE at h
  split at h
  · cases h
  · split at h
    · exact ⟨by omega, by omega, by assumption⟩
    · cases h
theorem setV_setV (x : St) (i : Nat) (a b : Vl) : (x.setV i a).setV i b = x.setV i b := by
  unfold setV
  congr 1
  funext k
  by_cases h : k = i
  · simp [h]
  · simp [h]
theorem setV_s (x : St) (i : Nat) (v : Vl) : (x.setV i v).s i = ⟨v, (x.s i).p⟩ := by unfold setV; simp
theorem setP_s (x : St) (i : Nat) (p : BitVec 8) : (x.setP i p).s i = ⟨(x.s i).v, p⟩ := by unfold setP; simp
theorem setP_setP (x : St) (i : Nat) (a b : BitVec 8) : (x.setP i a).setP i b = x.setP i b := by
  unfold setP
  congr 1
  funext k
  by_cases h : k = i
  · simp [h]
  · simp [h]
theorem setP_setV (x : St) (i : Nat) (a : Vl) (b : BitVec 8) : (x.setV i a).setP i b = (x.setP i b).setV i a := by
  unfold setP setV
  congr 1
  funext k
  by_cases h : k = i
  · simp [h]
  · simp [h]
theorem sized_is {n : Int} (h : sized n = true) : n = 1 ∨ n = 2 ∨ n = 4 ∨ n = 8 := by
  unfold sized at h
  simp only [Bool.or_eq_true, decide_eq_true_eq] at h
  omega
theorem fits_3 (o n : Int) : fitsE o n = 0 ∨ fitsE o n = 80 ∨ fitsE o n = 130 := by
  unfold fitsE; split
  · exact .inr (.inl rfl)
  · split
    · exact .inl rfl
    · exact .inr (.inr rfl)
theorem fits_j {o n : Int} (h : fitsE o n = 0) (hn : 0 < n) : ∃ j : Nat, o / 8 = (j : Int) ∧ j < 64 ∧ 0 ≤ o ∧ o ≤ 512 := by
  obtain ⟨h0, h1, _⟩ := fits_in h hn
  exact ⟨(o / 8).toNat, by omega, by omega, h0, by omega⟩
theorem putE_ok {s : St} {o n : Int} {v : Vl} (h : s.putArg n v = true) : s.putE o n v = fitsE o n := by unfold putE; rw [if_pos h]
theorem put_ok {s : St} {o n : Int} {v : Vl} {j : Nat} (h : s.putArg n v = true) (hf : fitsE o n = 0) (hq : o / 8 = (j : Int)) : s.put o n v = (s.setP j ((s.s j).p ||| bits o n)).setV j (if n = 8 then v else Vl.zero) := by
  unfold put
  rw [putE_ok h, if_pos hf]
  unfold put1
  have e : o.toNat / 8 = j := by omega
  rw [e]
theorem put_no {s : St} {o n : Int} {v : Vl} (h : s.putArg n v = true) (hf : ¬ fitsE o n = 0) : s.put o n v = zero := by
  unfold put
  rw [putE_ok h, if_neg hf]
/-- was something put to a byte? -/
def bset (x : St) (o : Nat) : Bool := (x.s (o / 8)).p.getLsbD (o % 8)
def upB (x : St) (o n : Nat) : Bool := (List.range n).all fun i => x.bset (o + i)
def fullArg (o n : Int) : Bool := !decide (o < 0) && !decide (n < 0) && !decide (512 < n) && !decide (512 - n < o)
def full (x : St) (o n : Int) : Bool := fullArg o n && x.right && x.upB o.toNat n.toNat
theorem upB_zero (x : St) (o : Nat) : x.upB o 0 = true := rfl
theorem upB_succ {x : St} {o k : Nat} (h : x.upB o k = true) (h2 : x.bset (o + k) = true) : x.upB o (k + 1) = true := by
  unfold upB at h ⊢; rw [all_succ, h, h2]; rfl
theorem upB_no {x : St} {o k n : Nat} (hk : k < n) (h : x.bset (o + k) = false) : x.upB o n = false := by
  unfold upB; exact all_false h hk
theorem upB_iff {x : St} {o n : Nat} : x.upB o n = true ↔ ∀ k, k < n → x.bset (o + k) = true := all_iff
/-- bits of a byte: all of a run are set just if the run's mask is -/
theorem mask_all : ∀ (p : BitVec 8) (r n : Nat), r < 8 → n ≤ 8 → r + n ≤ 8 → ((p &&& (((1#8 <<< n) - 1#8) <<< r)) = ((1#8 <<< n) - 1#8) <<< r ↔ ∀ i, i < n → p.getLsbD (r + i) = true) := by
  intro p r n hr hn hrn
  have key : ∀ (q : BitVec 8), ∀ r' : Fin 8, ∀ n' : Fin 9, r'.val + n'.val ≤ 8 → (decide ((q &&& (((1#8 <<< n'.val) - 1#8) <<< r'.val)) = ((1#8 <<< n'.val) - 1#8) <<< r'.val) = (List.range n'.val).all fun i => q.getLsbD (r'.val + i)) := by decide +kernel
  have h := key p ⟨r, hr⟩ ⟨n, by omega⟩ hrn
  simp only at h
  rw [← all_iff (f := fun i => p.getLsbD (r + i)), ← h, decide_eq_true_eq]
theorem upB_add {x : St} {o k m : Nat} (h : x.upB o k = true) (h2 : ∀ i, i < m → x.bset (o + k + i) = true) : x.upB o (k + m) = true := by
  rw [upB_iff] at h ⊢
  intro i hi
  rcases Nat.lt_or_ge i k with h3 | h3
  · exact h i h3
  · have := h2 (i - k) (by omega)
    rwa [show o + k + (i - k) = o + i by omega] at this
theorem bits_nat (a m : Nat) : bits (a : Int) (m : Int) = ((1#8 <<< m) - 1#8) <<< (a % 8) := by
  unfold bits
  rw [Int.toNat_natCast, show ((a : Int) % 8).toNat = a % 8 by omega]
/-- a run of a slot's bits -/
theorem run_set {x : St} {a m : Nat} (hm : a % 8 + m ≤ 8) : (((x.s (a / 8)).p &&& bits (a : Int) (m : Int)) == bits (a : Int) (m : Int)) = true ↔ ∀ i, i < m → x.bset (a + i) = true := by
  rw [bits_nat, beq_iff_eq, mask_all _ _ _ (Nat.mod_lt _ (by decide)) (by omega) hm]
  constructor
  · intro h i hi
    unfold bset
    rw [show (a + i) / 8 = a / 8 by omega, show (a + i) % 8 = a % 8 + i by omega]
    exact h i hi
  · intro h i hi
    have := h i hi
    unfold bset at this
    rwa [show (a + i) / 8 = a / 8 by omega, show (a + i) % 8 = a % 8 + i by omega] at this
theorem run_not {x : St} {a m : Nat} (hm : a % 8 + m ≤ 8) (h : (((x.s (a / 8)).p &&& bits (a : Int) (m : Int)) == bits (a : Int) (m : Int)) = false) : ∃ i, i < m ∧ x.bset (a + i) = false := by
  apply Classical.byContradiction
  intro hn
  have : ∀ i, i < m → x.bset (a + i) = true := fun i hi => by
    cases e : x.bset (a + i)
    · exact absurd ⟨i, hi, e⟩ hn
    · rfl
  rw [(run_set hm).2 this] at h
  cases h
theorem full_no {x : St} {o n k : Nat} (hk : k < n) (h : x.bset (o + k) = false) : x.full (o : Int) (n : Int) = false := by
  unfold full
  rw [Int.toNat_natCast, Int.toNat_natCast, upB_no hk h, Bool.and_false]
theorem full_yes {x : St} {o n : Nat} (ho : o + n ≤ 512) (hr : x.right = true) (h : x.upB o n = true) : x.full (o : Int) (n : Int) = true := by
  unfold full fullArg
  rw [Int.toNat_natCast, Int.toNat_natCast, h, hr]
  simp
  omega
theorem bset_sh : ∀ (p : BitVec 8) (r : Nat), r < 8 → ((p >>> r) % 2#8 == 1#8) = p.getLsbD r := by
  intro p r hr
  have key : ∀ q : BitVec 8, ∀ r' : Fin 8, ((q >>> r'.val) % 2#8 == 1#8) = q.getLsbD r'.val := by decide +kernel
  exact key p ⟨r, hr⟩
def hi (n : Int) : BitVec 64 := if n = 1 then 255#64 else if n = 2 then 65535#64 else if n = 4 then 4294967295#64 else 18446744073709551615#64
def below (n : Int) : Vl := Vl.num ((Fa.settle ⟨⟨0#64, 18446744073709551615#64⟩, ⟨0#64, hi n⟩⟩).getD Fa.zero)
def getE (x : St) (o n : Int) : Int := if (sized n && x.right) = true then (if fitsE o n = 0 then (if x.full o n = true then 0 else 81) else fitsE o n) else 1
def get (x : St) (o n : Int) : Vl := if x.getE o n = 0 then (if n = 8 ∧ ¬ (x.s (o.toNat / 8)).v.k = 0 then (x.s (o.toNat / 8)).v else below n) else Vl.zero
/-- where so many bytes may be told, they are in one slot -/
theorem full_slot {x : St} {o n : Int} {j : Nat} (hn : sized n = true) (hr : x.right = true) (hf : fitsE o n = 0) (hq : o / 8 = (j : Int)) : x.full o n = (((x.s j).p &&& bits o n) == bits o n) := by
  have hp : 0 < n := by have := sized_is hn; omega
  obtain ⟨h0, h1, h2⟩ := fits_in hf hp
  obtain ⟨a, rfl⟩ := Int.eq_ofNat_of_zero_le h0
  obtain ⟨m, rfl⟩ := Int.eq_ofNat_of_zero_le (show 0 ≤ n by omega)
  have hj : a / 8 = j := by omega
  subst hj
  have hm : a % 8 + m ≤ 8 := by
    rcases sized_is hn with e | e | e | e <;> rw [e] at h2 <;> omega
  cases e : (((x.s (a / 8)).p &&& bits (a : Int) (m : Int)) == bits (a : Int) (m : Int))
  · obtain ⟨i, hi, h3⟩ := run_not hm e
    exact full_no hi h3
  · exact full_yes (by omega) hr (upB_iff.2 ((run_set hm).1 e))
def slotIn (x y : Sl) : Bool := if y.v.k = 0 then (y.p &&& ~~~x.p == 0#8) else (!decide (x.v.k = 0) && Vl.within x.v y.v)
def inR (x y : St) (k : Nat) : Bool := (List.range k).all fun i => Vl.within (x.r i) (y.r i)
def inS (x y : St) (k : Nat) : Bool := (List.range k).all fun i => slotIn (x.s i) (y.s i)
def within (x y : St) : Bool := x.right && y.right && x.inR y 11 && x.inS y 64
theorem inR_zero (x y : St) : x.inR y 0 = true := rfl
theorem inS_zero (x y : St) : x.inS y 0 = true := rfl
theorem inR_succ {x y : St} {k : Nat} (h : x.inR y k = true) (h2 : Vl.within (x.r k) (y.r k) = true) : x.inR y (k + 1) = true := by
  unfold inR at h ⊢; rw [all_succ, h, h2]; rfl
theorem inS_succ {x y : St} {k : Nat} (h : x.inS y k = true) (h2 : slotIn (x.s k) (y.s k) = true) : x.inS y (k + 1) = true := by
  unfold inS at h ⊢; rw [all_succ, h, h2]; rfl
theorem within_noR {x y : St} {k : Nat} (hk : k < 11) (h : Vl.within (x.r k) (y.r k) = false) : x.within y = false := by
  unfold within inR; rw [all_false h hk]; simp
theorem within_noS {x y : St} {k : Nat} (hk : k < 64) (h : slotIn (x.s k) (y.s k) = false) : x.within y = false := by
  unfold within inS; rw [all_false h hk]; simp
end St
end Hk
