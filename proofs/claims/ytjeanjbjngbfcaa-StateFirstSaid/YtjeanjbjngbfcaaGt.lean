/- Package tnum: the small functions return what the plain functions on tnums say; old memory is as it was. No condition but those in each statement. Package tnum: what is known, joined, met and cut is what the plain functions on tnums say; old memory is as it was. No condition but those in each statement. Package tnum: its multiplication, a loop over memory, is the plain one; old memory is as it was. No condition. Package tnum: Do, its first ways. No condition but those in each statement. Package tnum: Do, its other ways. No condition but those in each statement. Package tnum: Do returns what the plain function on tnums says; old memory is as it was. No condition but those in each statement. Package tnum: the contracts with each struct given by its words. No condition. -/
import Derived.Test.YtjeanjbjngbfcaaProg
import Derived.Test.YtjeanjbjngbfcaaGp
import Derived.Test.YtjeanjbjngbfcaaGq
import Derived.Deep.LoopGhost
namespace Hk
open Go Go.RowKit Go.Proofs
set_option linter.unusedSimpArgs false
set_option linter.unusedVariables false
set_option maxRecDepth 100000
attribute [go_sem] Tn.eta
theorem right_c (a : Tn) (w : World) : Calls Try.prog 45 #[.agg #[.int .u64 (N a.v), .int .u64 (N a.m)]] w fun e w' => e = .returned (.bool (a.right)) ∧ Below w.heap.size w w' := by
  go_enter Try.func45, Try.ntmps45
  go_wp2
  go_ret
  exact ⟨rfl, (by repeat' (first | (with_reducible exact Below.refl _ _) | (with_reducible assumption) | (with_reducible refine Below.alloc ?_ ?_ _) | (with_reducible refine Below.setCell ?_ ?_ _) | (with_reducible refine Below.drew ?_) | (with_reducible refine below_dn ?_ _) | (with_reducible refine Below.trans ?_ (Below.mono (by assumption) ?_)) | go_size))⟩

theorem both_c (a b : Tn) (w : World) : Calls Try.prog 56 #[.agg #[.int .u64 (N a.v), .int .u64 (N a.m)], .agg #[.int .u64 (N b.v), .int .u64 (N b.m)]] w fun e w' => e = .returned (.bool (a.right && b.right)) ∧ Below w.heap.size w w' := by
  cases ha : a.right
  all_goals
    go_enter Try.func56, Try.ntmps56
    go_wp2_with (first | (go_at_call 45; (with_reducible refine (right_c ⟨_, _⟩ _).mono ?_); rintro e w1 ⟨rfl, hb1⟩; obtain ⟨hc1, hf1, hz1⟩ := bcell hb1; (try simp only [World.size_alloc, World.size_setCell, World.size_drew] at hc1 hf1 hz1)))
    go_ret
    exact ⟨rfl, (by repeat' (first | (with_reducible exact Below.refl _ _) | (with_reducible assumption) | (with_reducible refine Below.alloc ?_ ?_ _) | (with_reducible refine Below.setCell ?_ ?_ _) | (with_reducible refine Below.drew ?_) | (with_reducible refine below_dn ?_ _) | (with_reducible refine Below.trans ?_ (Below.mono (by assumption) ?_)) | go_size))⟩

theorem made_c (v m : BitVec 64) (w : World) : Calls Try.prog 57 #[.int .u64 (N v), .int .u64 (N m)] w fun e w' => e = .returned (.agg #[.int .u64 (N (Tn.made v m).v), .int .u64 (N (Tn.made v m).m)]) ∧ Below w.heap.size w w' := by
  go_enter Try.func57, Try.ntmps57
  go_wp2
  refine bodyPost_ret (v := .agg #[.int .u64 (N (Tn.made v m).v), .int .u64 (N (Tn.made v m).m)]) ?_ rfl ⟨?_, (by repeat' (first | (with_reducible exact Below.refl _ _) | (with_reducible assumption) | (with_reducible refine Below.alloc ?_ ?_ _) | (with_reducible refine Below.setCell ?_ ?_ _) | (with_reducible refine Below.drew ?_) | (with_reducible refine below_dn ?_ _) | (with_reducible refine Below.trans ?_ (Below.mono (by assumption) ?_)) | go_size))⟩
  · simp only [results, Try.results57]; simp [*, go_sem, ↓IntWalk.iteOmega]; try (first | rfl | exact ⟨rfl, rfl⟩)
  · rfl

end Hk

namespace Hk
open Go Go.RowKit Go.Proofs
set_option linter.unusedSimpArgs false
set_option linter.unusedVariables false
set_option maxRecDepth 100000
theorem within_c (a b : Tn) (w : World) : Calls Try.prog 59 #[.agg #[.int .u64 (N a.v), .int .u64 (N a.m)], .agg #[.int .u64 (N b.v), .int .u64 (N b.m)]] w fun e w' => e = .returned (.bool (a.within b)) ∧ Below w.heap.size w w' := by
  cases ha : a.right <;> cases hb : b.right <;> cases hm : (a.m &&& ~~~b.m == 0#64)
  all_goals
    go_enter Try.func59, Try.ntmps59
    go_wp2_with (first | (go_at_call 56; (with_reducible refine (both_c ⟨_, _⟩ ⟨_, _⟩ _).mono ?_); rintro e w1 ⟨rfl, hb1⟩; obtain ⟨hc1, hf1, hz1⟩ := bcell hb1; (try simp only [World.size_alloc, World.size_setCell, World.size_drew] at hc1 hf1 hz1)))
    go_ret
    exact ⟨by simp [Tn.within, ha, hb, hm], (by repeat' (first | (with_reducible exact Below.refl _ _) | (with_reducible assumption) | (with_reducible refine Below.alloc ?_ ?_ _) | (with_reducible refine Below.setCell ?_ ?_ _) | (with_reducible refine Below.drew ?_) | (with_reducible refine below_dn ?_ _) | (with_reducible refine Below.trans ?_ (Below.mono (by assumption) ?_)) | go_size))⟩

theorem meet_c (a b : Tn) (w : World) : Calls Try.prog 48 #[.agg #[.int .u64 (N a.v), .int .u64 (N a.m)], .agg #[.int .u64 (N b.v), .int .u64 (N b.m)]] w fun e w' => e = .returned (.tuple #[.agg #[.int .u64 (N (Tn.meet a b).v), .int .u64 (N (Tn.meet a b).m)], .bool (Tn.meetOk a b)]) ∧ Below w.heap.size w w' := by
  cases ha : a.right <;> cases hb : b.right <;> cases hm : ((a.v ^^^ b.v) &&& ~~~(a.m ||| b.m) == 0#64)
  all_goals
    go_enter Try.func48, Try.ntmps48
    go_wp2_with (first | (go_at_call 56; (with_reducible refine (both_c ⟨_, _⟩ ⟨_, _⟩ _).mono ?_); rintro e w1 ⟨rfl, hb1⟩; obtain ⟨hc1, hf1, hz1⟩ := bcell hb1; (try simp only [World.size_alloc, World.size_setCell, World.size_drew] at hc1 hf1 hz1)) | (go_at_call 57; (with_reducible refine (made_c _ _ _).mono ?_); rintro e w1 ⟨rfl, hb1⟩; obtain ⟨hc1, hf1, hz1⟩ := bcell hb1; (try simp only [World.size_alloc, World.size_setCell, World.size_drew] at hc1 hf1 hz1)))
    refine bodyPost_ret (v := .tuple #[.agg #[.int .u64 (N (Tn.meet a b).v), .int .u64 (N (Tn.meet a b).m)], .bool (Tn.meetOk a b)]) ?_ rfl ⟨?_, (by repeat' (first | (with_reducible exact Below.refl _ _) | (with_reducible assumption) | (with_reducible refine Below.alloc ?_ ?_ _) | (with_reducible refine Below.setCell ?_ ?_ _) | (with_reducible refine Below.drew ?_) | (with_reducible refine below_dn ?_ _) | (with_reducible refine Below.trans ?_ (Below.mono (by assumption) ?_)) | go_size))⟩
    · simp only [results, Try.results48]; simp [*, go_sem, ↓IntWalk.iteOmega]; simp [Tn.meet, Tn.meetOk, ha, hb, hm]; try (first | rfl | exact ⟨rfl, rfl⟩)
    · rfl

end Hk

namespace Hk
open Go Go.RowKit Go.Proofs
set_option linter.unusedSimpArgs false
set_option linter.unusedVariables false
set_option maxRecDepth 100000
theorem mul_done (a b : Tn) (j : Nat) (h : b.v >>> j ||| b.m >>> j = 0#64) : ∀ k, Tn.mulTo a b (j + k) = Tn.mulTo a b j := by
  intro k
  induction k with
  | zero => rfl
  | succ k ih =>
    have h1 := bt_congr h k
    rw [bt_or, bt_shr, bt_shr, bt_zero, Bool.or_eq_false_iff] at h1
    rw [← Nat.add_assoc]
    rw [Tn.mulTo, h1.1, h1.2]
    exact ih
theorem mul_end (a b : Tn) (j : Nat) (hj : j ≤ 64) (h : (b.v >>> j ||| b.m >>> j == 0#64) = true) : Tn.mulTo a b j = Tn.mul a b := by
  have := mul_done a b j (by simpa using h) (64 - j)
  rw [show j + (64 - j) = 64 by omega] at this
  exact this.symm
theorem mul_more (b : Tn) (j : Nat) (hj : j ≤ 64) (h : (b.v >>> j ||| b.m >>> j == 0#64) = false) : j < 64 := by
  apply Classical.byContradiction
  intro hn
  have e : j = 64 := by omega
  subst e
  have e1 : ∀ x : BitVec 64, x >>> 64 = 0#64 := fun x => bt_ext fun i hi => by rw [bt_shr, bt_ge _ _ (by omega), bt_zero]
  rw [e1, e1] at h
  simp at h
/-- What stands in memory ahead of the round j. -/
def MulAt (a b : Tn) (w : World) (j : Nat) (wr : World) : Prop :=
  wr.cell? ⟨w.heap.size, 0, none⟩ = some (.int .u64 (N (a.v <<< j))) ∧ wr.cell? ⟨w.heap.size, 1, none⟩ = some (.int .u64 (N (a.m <<< j))) ∧
  wr.cell? ⟨w.heap.size + 1, 0, none⟩ = some (.int .u64 (N (b.v >>> j))) ∧ wr.cell? ⟨w.heap.size + 1, 1, none⟩ = some (.int .u64 (N (b.m >>> j))) ∧
  wr.cell? ⟨w.heap.size + 1 + 1 + 1, 0, none⟩ = some (.int .u64 (N (Tn.mulTo a b j).v)) ∧ wr.cell? ⟨w.heap.size + 1 + 1 + 1, 1, none⟩ = some (.int .u64 (N (Tn.mulTo a b j).m)) ∧
  (wr.cell? ⟨w.heap.size + 1 + 1, 0, none⟩ = some (.int .u64 (N 0#64))) ∧ (wr.cell? ⟨w.heap.size + 1 + 1, 1, none⟩ = some (.int .u64 (N 0#64))) ∧
  (∀ o, wr.frozen? ⟨w.heap.size, o, none⟩ = false) ∧ (∀ o, wr.frozen? ⟨w.heap.size + 1, o, none⟩ = false) ∧ (∀ o, wr.frozen? ⟨w.heap.size + 1 + 1, o, none⟩ = false) ∧ (∀ o, wr.frozen? ⟨w.heap.size + 1 + 1 + 1, o, none⟩ = false) ∧
  w.heap.size + 1 + 1 + 1 < wr.heap.size ∧ Below w.heap.size w wr
end Hk

namespace Hk
open Go Go.RowKit Go.Proofs
set_option linter.unusedSimpArgs false
set_option linter.unusedVariables false
set_option maxRecDepth 100000
end Hk

namespace Hk
open Go Go.RowKit Go.Proofs
set_option linter.unusedSimpArgs false
set_option linter.unusedVariables false
set_option maxRecDepth 100000
end Hk

namespace Hk
open Go Go.RowKit Go.Proofs
set_option linter.unusedSimpArgs false
set_option linter.unusedVariables false
set_option maxRecDepth 100000
end Hk

namespace Hk
open Go Go.RowKit Go.Proofs
set_option linter.unusedSimpArgs false
set_option linter.unusedVariables false
set_option maxRecDepth 100000
attribute [go_sem] Tn.eta
theorem right_c' (x0 y0 : BitVec 64) (w : World) : Calls Try.prog 45 #[.agg #[.int .u64 (N x0), .int .u64 (N y0)]] w fun e w' => e = .returned (.bool (Tn.right (⟨x0, y0⟩ : Tn))) ∧ Below w.heap.size w w' := by
  exact right_c (⟨x0, y0⟩ : Tn) w

theorem within_c' (x0 y0 : BitVec 64) (x1 y1 : BitVec 64) (w : World) : Calls Try.prog 59 #[.agg #[.int .u64 (N x0), .int .u64 (N y0)], .agg #[.int .u64 (N x1), .int .u64 (N y1)]] w fun e w' => e = .returned (.bool (Tn.within (⟨x0, y0⟩ : Tn) (⟨x1, y1⟩ : Tn))) ∧ Below w.heap.size w w' := by
  exact within_c (⟨x0, y0⟩ : Tn) (⟨x1, y1⟩ : Tn) w

theorem meet_c' (x0 y0 : BitVec 64) (x1 y1 : BitVec 64) (w : World) : Calls Try.prog 48 #[.agg #[.int .u64 (N x0), .int .u64 (N y0)], .agg #[.int .u64 (N x1), .int .u64 (N y1)]] w fun e w' => e = .returned (.tuple #[.agg #[.int .u64 (N (Tn.meet (⟨x0, y0⟩ : Tn) (⟨x1, y1⟩ : Tn)).v), .int .u64 (N (Tn.meet (⟨x0, y0⟩ : Tn) (⟨x1, y1⟩ : Tn)).m)], .bool (Tn.meetOk (⟨x0, y0⟩ : Tn) (⟨x1, y1⟩ : Tn))]) ∧ Below w.heap.size w w' := by
  exact meet_c (⟨x0, y0⟩ : Tn) (⟨x1, y1⟩ : Tn) w

end Hk

