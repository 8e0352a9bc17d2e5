/- What is known of a register, as a kind, a fact, a map's number and an offset: the document's words in plain Lean, no program in sight. No condition but those in each statement. -/
import Derived.Test.YtjeanjbjngbfcaaGf
namespace Hk
structure Vl where
  k : Int
  f : Fa
  i : Int
  off : Int
deriving DecidableEq
namespace Vl
def zero : Vl := ⟨0, Fa.zero, 0, 0⟩
def reach (o : Int) : Bool := decide (-1048576 ≤ o) && decide (o ≤ 1048576)
def isZ (f : Fa) : Bool := (f.t.v == 0#64) && (f.t.m == 0#64) && (f.s.lo == 0#64) && (f.s.hi == 0#64)
def right (v : Vl) : Bool :=
  !decide (v.i < 0) && !decide (8 ≤ v.i) && reach v.off &&
  (if v.k = 0 then isZ v.f && decide (v.i = 0) && decide (v.off = 0)
   else if v.k = 1 then decide (v.i = 0) && decide (v.off = 0) && Fa.ok v.f
   else if v.k = 2 ∨ v.k = 3 then isZ v.f && decide (v.i = 0)
   else if v.k = 4 ∨ v.k = 6 then isZ v.f && decide (v.off = 0)
   else if v.k = 5 then isZ v.f else false)
theorem eta (v : Vl) : Vl.mk v.k v.f v.i v.off = v := rfl
theorem isZ_iff {f : Fa} : isZ f = true ↔ f = Fa.zero := by
  obtain ⟨⟨a, b⟩, ⟨c, d⟩⟩ := f
  simp only [isZ, Fa.zero, Bool.and_eq_true, beq_iff_eq, Fa.mk.injEq, Tn.mk.injEq, Sp.mk.injEq]
  constructor
  · rintro ⟨⟨⟨h1, h2⟩, h3⟩, h4⟩; exact ⟨⟨h1, h2⟩, h3, h4⟩
  · rintro ⟨⟨h1, h2⟩, h3, h4⟩; exact ⟨⟨⟨h1, h2⟩, h3⟩, h4⟩
def at_ (a o : Int) : BitVec 64 := BitVec.ofInt 64 a <<< 32 + BitVec.ofInt 64 o
def area (i s : Int) : Int := 4096 + 1024 * i + s
def num (f : Fa) : Vl := if Fa.ok f then ⟨1, f, 0, 0⟩ else zero
def ptr (v : Vl) : Bool := (decide (v.k = 2) || decide (v.k = 3) || decide (v.k = 5)) && right v
def inA (i off : Int) (n : BitVec 64) : Bool :=
  (n - BitVec.ofInt 64 off == ((n - BitVec.ofInt 64 off) >>> 32) <<< 32) && decide (BitVec.ofInt 64 (area i 0) ≤ (n - BitVec.ofInt 64 off) >>> 32) && decide ((n - BitVec.ofInt 64 off) >>> 32 ≤ BitVec.ofInt 64 (area i 1023))
def is_ (v : Vl) (n : BitVec 64) (set : Bool) : Bool :=
  right v && (decide (v.k = 0) || (set &&
    (if v.k = 1 then Fa.has v.f n else if v.k = 2 then n == at_ 1 v.off else if v.k = 3 then n == at_ 2 v.off else if v.k = 4 then n == at_ 3 v.i
     else ((n == 0#64) && decide (v.k = 6)) || inA v.i v.off n)))
def within (a b : Vl) : Bool := right a && right b && (if a.k = 1 ∧ b.k = 1 then Fa.within a.f b.f else decide (b.k = 0) || decide (a = b))
def join (a b : Vl) : Vl := if (right a && right b) = true then (if a.k = 1 ∧ b.k = 1 then num (Fa.join a.f b.f) else if a = b then a else zero) else zero
def moveOk (v : Vl) (n : BitVec 64) : Bool := ptr v && reach n.toInt && reach (v.off + n.toInt)
def move (v : Vl) (n : BitVec 64) : Vl := if moveOk v n = true then ⟨v.k, v.f, v.i, v.off + n.toInt⟩ else zero
theorem eq_iff {a b : Vl} : a = b ↔ a.k = b.k ∧ a.f.t.v = b.f.t.v ∧ a.f.t.m = b.f.t.m ∧ a.f.s.lo = b.f.s.lo ∧ a.f.s.hi = b.f.s.hi ∧ a.i = b.i ∧ a.off = b.off := by
  constructor
  · rintro rfl; exact ⟨rfl, rfl, rfl, rfl, rfl, rfl, rfl⟩
  · obtain ⟨k, ⟨⟨x, y⟩, ⟨z, u⟩⟩, i, o⟩ := a
    obtain ⟨k', ⟨⟨x', y'⟩, ⟨z', u'⟩⟩, i', o'⟩ := b
    rintro ⟨h1, h2, h3, h4, h5, h6, h7⟩
    simp only at h1 h2 h3 h4 h5 h6 h7
    subst h1 h2 h3 h4 h5 h6 h7
    rfl
theorem reach_iff {o : Int} : reach o = true ↔ -1048576 ≤ o ∧ o ≤ 1048576 := by
  unfold reach; rw [Bool.and_eq_true, decide_eq_true_eq, decide_eq_true_eq]
theorem right_bounds {v : Vl} (h : right v = true) : 0 ≤ v.i ∧ v.i < 8 ∧ -1048576 ≤ v.off ∧ v.off ≤ 1048576 := by
  unfold right at h
  simp only [Bool.and_eq_true, Bool.not_eq_true', decide_eq_false_iff_not, reach_iff] at h
  omega
theorem right_kind {v : Vl} (h : right v = true) : v.k = 0 ∨ v.k = 1 ∨ v.k = 2 ∨ v.k = 3 ∨ v.k = 4 ∨ v.k = 5 ∨ v.k = 6 := by
  unfold right at h
  by_cases h0 : v.k = 0
  · exact .inl h0
  by_cases h1 : v.k = 1
  · exact .inr (.inl h1)
  by_cases h2 : v.k = 2
  · exact .inr (.inr (.inl h2))
  by_cases h3 : v.k = 3
  · exact .inr (.inr (.inr (.inl h3)))
  by_cases h4 : v.k = 4
  · exact .inr (.inr (.inr (.inr (.inl h4))))
  by_cases h5 : v.k = 5
  · exact .inr (.inr (.inr (.inr (.inr (.inl h5)))))
  by_cases h6 : v.k = 6
  · exact .inr (.inr (.inr (.inr (.inr (.inr h6)))))
  simp [h0, h1, h2, h3, h4, h5, h6] at h
end Vl
end Hk
