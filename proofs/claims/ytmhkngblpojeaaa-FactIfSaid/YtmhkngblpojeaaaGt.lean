/- Package tnum: the small functions return what the plain functions on tnums say; old memory is as it was. No condition but those in each statement. Package tnum: what is known, joined, met and cut is what the plain functions on tnums say; old memory is as it was. No condition but those in each statement. Package tnum: its multiplication, a loop over memory, is the plain one; old memory is as it was. No condition. Package tnum: Do, its first ways. No condition but those in each statement. Package tnum: Do, its other ways. No condition but those in each statement. Package tnum: Do returns what the plain function on tnums says; old memory is as it was. No condition but those in each statement. Package tnum: the contracts with each struct given by its words. No condition. -/
import Derived.Test.YtmhkngblpojeaaaProg
import Derived.Test.YtmhkngblpojeaaaGp
import Derived.Test.YtmhkngblpojeaaaGq
import Derived.Deep.LoopGhost
namespace Hk
open Go Go.RowKit Go.Proofs
set_option linter.unusedSimpArgs false
set_option linter.unusedVariables false
set_option maxRecDepth 100000
attribute [go_sem] Tn.eta
theorem right_c (a : Tn) (w : World) : Calls Try.prog 49 #[.agg #[.int .u64 (N a.v), .int .u64 (N a.m)]] w fun e w' => e = .returned (.bool (a.right)) ∧ Below w.heap.size w w' := by
  go_enter Try.func49, Try.ntmps49
  go_wp2
  go_ret
  exact ⟨rfl, (by repeat' (first | (with_reducible exact Below.refl _ _) | (with_reducible assumption) | (with_reducible refine Below.alloc ?_ ?_ _) | (with_reducible refine Below.setCell ?_ ?_ _) | (with_reducible refine Below.drew ?_) | (with_reducible refine below_dn ?_ _) | (with_reducible refine Below.trans ?_ (Below.mono (by assumption) ?_)) | go_size))⟩

theorem both_c (a b : Tn) (w : World) : Calls Try.prog 91 #[.agg #[.int .u64 (N a.v), .int .u64 (N a.m)], .agg #[.int .u64 (N b.v), .int .u64 (N b.m)]] w fun e w' => e = .returned (.bool (a.right && b.right)) ∧ Below w.heap.size w w' := by
  cases ha : a.right
  all_goals
    go_enter Try.func91, Try.ntmps91
    go_wp2_with (first | (go_at_call 49; (with_reducible refine (right_c ⟨_, _⟩ _).mono ?_); rintro e w1 ⟨rfl, hb1⟩; obtain ⟨hc1, hf1, hz1⟩ := bcell hb1; (try simp only [World.size_alloc, World.size_setCell, World.size_drew] at hc1 hf1 hz1)))
    go_ret
    exact ⟨rfl, (by repeat' (first | (with_reducible exact Below.refl _ _) | (with_reducible assumption) | (with_reducible refine Below.alloc ?_ ?_ _) | (with_reducible refine Below.setCell ?_ ?_ _) | (with_reducible refine Below.drew ?_) | (with_reducible refine below_dn ?_ _) | (with_reducible refine Below.trans ?_ (Below.mono (by assumption) ?_)) | go_size))⟩

theorem made_c (v m : BitVec 64) (w : World) : Calls Try.prog 92 #[.int .u64 (N v), .int .u64 (N m)] w fun e w' => e = .returned (.agg #[.int .u64 (N (Tn.made v m).v), .int .u64 (N (Tn.made v m).m)]) ∧ Below w.heap.size w w' := by
  go_enter Try.func92, Try.ntmps92
  go_wp2
  refine bodyPost_ret (v := .agg #[.int .u64 (N (Tn.made v m).v), .int .u64 (N (Tn.made v m).m)]) ?_ rfl ⟨?_, (by repeat' (first | (with_reducible exact Below.refl _ _) | (with_reducible assumption) | (with_reducible refine Below.alloc ?_ ?_ _) | (with_reducible refine Below.setCell ?_ ?_ _) | (with_reducible refine Below.drew ?_) | (with_reducible refine below_dn ?_ _) | (with_reducible refine Below.trans ?_ (Below.mono (by assumption) ?_)) | go_size))⟩
  · simp only [results, Try.results92]; simp [*, go_sem, ↓IntWalk.iteOmega]; try (first | rfl | exact ⟨rfl, rfl⟩)
  · rfl

theorem of_c (n : BitVec 64) (w : World) : Calls Try.prog 44 #[.int .u64 (N n)] w fun e w' => e = .returned (.agg #[.int .u64 (N (Tn.of n).v), .int .u64 (N (Tn.of n).m)]) ∧ Below w.heap.size w w' := by
  go_enter Try.func44, Try.ntmps44
  go_wp2
  refine bodyPost_ret (v := .agg #[.int .u64 (N (Tn.of n).v), .int .u64 (N (Tn.of n).m)]) ?_ rfl ⟨?_, (by repeat' (first | (with_reducible exact Below.refl _ _) | (with_reducible assumption) | (with_reducible refine Below.alloc ?_ ?_ _) | (with_reducible refine Below.setCell ?_ ?_ _) | (with_reducible refine Below.drew ?_) | (with_reducible refine below_dn ?_ _) | (with_reducible refine Below.trans ?_ (Below.mono (by assumption) ?_)) | go_size))⟩
  · simp only [results, Try.results44]; simp [*, go_sem, ↓IntWalk.iteOmega]; try (first | rfl | exact ⟨rfl, rfl⟩)
  · rfl

theorem add_c (a b : Tn) (w : World) : Calls Try.prog 107 #[.agg #[.int .u64 (N a.v), .int .u64 (N a.m)], .agg #[.int .u64 (N b.v), .int .u64 (N b.m)]] w fun e w' => e = .returned (.agg #[.int .u64 (N (Tn.add a b).v), .int .u64 (N (Tn.add a b).m)]) ∧ Below w.heap.size w w' := by
  go_enter Try.func107, Try.ntmps107
  go_wp2_with (first | (go_at_call 92; (with_reducible refine (made_c _ _ _).mono ?_); rintro e w1 ⟨rfl, hb1⟩; obtain ⟨hc1, hf1, hz1⟩ := bcell hb1; (try simp only [World.size_alloc, World.size_setCell, World.size_drew] at hc1 hf1 hz1)))
  refine bodyPost_ret (v := .agg #[.int .u64 (N (Tn.add a b).v), .int .u64 (N (Tn.add a b).m)]) ?_ rfl ⟨?_, (by repeat' (first | (with_reducible exact Below.refl _ _) | (with_reducible assumption) | (with_reducible refine Below.alloc ?_ ?_ _) | (with_reducible refine Below.setCell ?_ ?_ _) | (with_reducible refine Below.drew ?_) | (with_reducible refine below_dn ?_ _) | (with_reducible refine Below.trans ?_ (Below.mono (by assumption) ?_)) | go_size))⟩
  · simp only [results, Try.results107]; simp [*, go_sem, ↓IntWalk.iteOmega]; try (first | rfl | exact ⟨rfl, rfl⟩)
  · rfl

end Hk

namespace Hk
open Go Go.RowKit Go.Proofs
set_option linter.unusedSimpArgs false
set_option linter.unusedVariables false
set_option maxRecDepth 100000
theorem has_c (a : Tn) (n : BitVec 64) (w : World) : Calls Try.prog 56 #[.agg #[.int .u64 (N a.v), .int .u64 (N a.m)], .int .u64 (N n)] w fun e w' => e = .returned (.bool (a.has n)) ∧ Below w.heap.size w w' := by
  cases ha : a.right
  all_goals
    go_enter Try.func56, Try.ntmps56
    go_wp2_with (first | (go_at_call 49; (with_reducible refine (right_c ⟨_, _⟩ _).mono ?_); rintro e w1 ⟨rfl, hb1⟩; obtain ⟨hc1, hf1, hz1⟩ := bcell hb1; (try simp only [World.size_alloc, World.size_setCell, World.size_drew] at hc1 hf1 hz1)))
    go_ret
    exact ⟨by simp [Tn.has, ha], (by repeat' (first | (with_reducible exact Below.refl _ _) | (with_reducible assumption) | (with_reducible refine Below.alloc ?_ ?_ _) | (with_reducible refine Below.setCell ?_ ?_ _) | (with_reducible refine Below.drew ?_) | (with_reducible refine below_dn ?_ _) | (with_reducible refine Below.trans ?_ (Below.mono (by assumption) ?_)) | go_size))⟩

theorem within_c (a b : Tn) (w : World) : Calls Try.prog 63 #[.agg #[.int .u64 (N a.v), .int .u64 (N a.m)], .agg #[.int .u64 (N b.v), .int .u64 (N b.m)]] w fun e w' => e = .returned (.bool (a.within b)) ∧ Below w.heap.size w w' := by
  cases ha : a.right <;> cases hb : b.right <;> cases hm : (a.m &&& ~~~b.m == 0#64)
  all_goals
    go_enter Try.func63, Try.ntmps63
    go_wp2_with (first | (go_at_call 91; (with_reducible refine (both_c ⟨_, _⟩ ⟨_, _⟩ _).mono ?_); rintro e w1 ⟨rfl, hb1⟩; obtain ⟨hc1, hf1, hz1⟩ := bcell hb1; (try simp only [World.size_alloc, World.size_setCell, World.size_drew] at hc1 hf1 hz1)))
    go_ret
    exact ⟨by simp [Tn.within, ha, hb, hm], (by repeat' (first | (with_reducible exact Below.refl _ _) | (with_reducible assumption) | (with_reducible refine Below.alloc ?_ ?_ _) | (with_reducible refine Below.setCell ?_ ?_ _) | (with_reducible refine Below.drew ?_) | (with_reducible refine below_dn ?_ _) | (with_reducible refine Below.trans ?_ (Below.mono (by assumption) ?_)) | go_size))⟩

theorem join_c (a b : Tn) (w : World) : Calls Try.prog 68 #[.agg #[.int .u64 (N a.v), .int .u64 (N a.m)], .agg #[.int .u64 (N b.v), .int .u64 (N b.m)]] w fun e w' => e = .returned (.agg #[.int .u64 (N (Tn.join a b).v), .int .u64 (N (Tn.join a b).m)]) ∧ Below w.heap.size w w' := by
  cases ha : a.right <;> cases hb : b.right
  all_goals
    go_enter Try.func68, Try.ntmps68
    go_wp2_with (first | (go_at_call 91; (with_reducible refine (both_c ⟨_, _⟩ ⟨_, _⟩ _).mono ?_); rintro e w1 ⟨rfl, hb1⟩; obtain ⟨hc1, hf1, hz1⟩ := bcell hb1; (try simp only [World.size_alloc, World.size_setCell, World.size_drew] at hc1 hf1 hz1)) | (go_at_call 92; (with_reducible refine (made_c _ _ _).mono ?_); rintro e w1 ⟨rfl, hb1⟩; obtain ⟨hc1, hf1, hz1⟩ := bcell hb1; (try simp only [World.size_alloc, World.size_setCell, World.size_drew] at hc1 hf1 hz1)))
    refine bodyPost_ret (v := .agg #[.int .u64 (N (Tn.join a b).v), .int .u64 (N (Tn.join a b).m)]) ?_ rfl ⟨?_, (by repeat' (first | (with_reducible exact Below.refl _ _) | (with_reducible assumption) | (with_reducible refine Below.alloc ?_ ?_ _) | (with_reducible refine Below.setCell ?_ ?_ _) | (with_reducible refine Below.drew ?_) | (with_reducible refine below_dn ?_ _) | (with_reducible refine Below.trans ?_ (Below.mono (by assumption) ?_)) | go_size))⟩
    · simp only [results, Try.results68]; simp [*, go_sem, ↓IntWalk.iteOmega]; simp [Tn.join, ha, hb]; try (first | rfl | exact ⟨rfl, rfl⟩)
    · rfl

theorem meet_c (a b : Tn) (w : World) : Calls Try.prog 52 #[.agg #[.int .u64 (N a.v), .int .u64 (N a.m)], .agg #[.int .u64 (N b.v), .int .u64 (N b.m)]] w fun e w' => e = .returned (.tuple #[.agg #[.int .u64 (N (Tn.meet a b).v), .int .u64 (N (Tn.meet a b).m)], .bool (Tn.meetOk a b)]) ∧ Below w.heap.size w w' := by
  cases ha : a.right <;> cases hb : b.right <;> cases hm : ((a.v ^^^ b.v) &&& ~~~(a.m ||| b.m) == 0#64)
  all_goals
    go_enter Try.func52, Try.ntmps52
    go_wp2_with (first | (go_at_call 91; (with_reducible refine (both_c ⟨_, _⟩ ⟨_, _⟩ _).mono ?_); rintro e w1 ⟨rfl, hb1⟩; obtain ⟨hc1, hf1, hz1⟩ := bcell hb1; (try simp only [World.size_alloc, World.size_setCell, World.size_drew] at hc1 hf1 hz1)) | (go_at_call 92; (with_reducible refine (made_c _ _ _).mono ?_); rintro e w1 ⟨rfl, hb1⟩; obtain ⟨hc1, hf1, hz1⟩ := bcell hb1; (try simp only [World.size_alloc, World.size_setCell, World.size_drew] at hc1 hf1 hz1)))
    refine bodyPost_ret (v := .tuple #[.agg #[.int .u64 (N (Tn.meet a b).v), .int .u64 (N (Tn.meet a b).m)], .bool (Tn.meetOk a b)]) ?_ rfl ⟨?_, (by repeat' (first | (with_reducible exact Below.refl _ _) | (with_reducible assumption) | (with_reducible refine Below.alloc ?_ ?_ _) | (with_reducible refine Below.setCell ?_ ?_ _) | (with_reducible refine Below.drew ?_) | (with_reducible refine below_dn ?_ _) | (with_reducible refine Below.trans ?_ (Below.mono (by assumption) ?_)) | go_size))⟩
    · simp only [results, Try.results52]; simp [*, go_sem, ↓IntWalk.iteOmega]; simp [Tn.meet, Tn.meetOk, ha, hb, hm]; try (first | rfl | exact ⟨rfl, rfl⟩)
    · rfl

theorem cut_no1 (t : Tn) (k : Int) (hr : t.right = false) (w : World) : Calls Try.prog 70 #[.agg #[.int .u64 (N t.v), .int .u64 (N t.m)], .int .i64 k] w fun e w' => e = .returned (.agg #[.int .u64 (N (Tn.cutI t k).v), .int .u64 (N (Tn.cutI t k).m)]) ∧ Below w.heap.size w w' := by
  go_enter Try.func70, Try.ntmps70
  go_wp2_with (first | (go_at_call 49; (with_reducible refine (right_c ⟨_, _⟩ _).mono ?_); rintro e w1 ⟨rfl, hb1⟩; obtain ⟨hc1, hf1, hz1⟩ := bcell hb1; (try simp only [World.size_alloc, World.size_setCell, World.size_drew] at hc1 hf1 hz1)))
  refine bodyPost_ret (v := .agg #[.int .u64 (N (Tn.cutI t k).v), .int .u64 (N (Tn.cutI t k).m)]) ?_ rfl ⟨rfl, (by repeat' (first | (with_reducible exact Below.refl _ _) | (with_reducible assumption) | (with_reducible refine Below.alloc ?_ ?_ _) | (with_reducible refine Below.setCell ?_ ?_ _) | (with_reducible refine Below.drew ?_) | (with_reducible refine below_dn ?_ _) | (with_reducible refine Below.trans ?_ (Below.mono (by assumption) ?_)) | go_size))⟩
  rw [Tn.cutI_no hr]
  simp only [results, Try.results70]; simp [*, go_sem, ↓IntWalk.iteOmega]; try (first | rfl | exact ⟨rfl, rfl⟩)

theorem cut_out1 (t : Tn) (k : Int) (hr : t.right = true) (h : k < 1) (w : World) : Calls Try.prog 70 #[.agg #[.int .u64 (N t.v), .int .u64 (N t.m)], .int .i64 k] w fun e w' => e = .returned (.agg #[.int .u64 (N (Tn.cutI t k).v), .int .u64 (N (Tn.cutI t k).m)]) ∧ Below w.heap.size w w' := by
  go_enter Try.func70, Try.ntmps70
  go_wp2_with (first | (go_at_call 49; (with_reducible refine (right_c ⟨_, _⟩ _).mono ?_); rintro e w1 ⟨rfl, hb1⟩; obtain ⟨hc1, hf1, hz1⟩ := bcell hb1; (try simp only [World.size_alloc, World.size_setCell, World.size_drew] at hc1 hf1 hz1)))
  refine bodyPost_ret (v := .agg #[.int .u64 (N (Tn.cutI t k).v), .int .u64 (N (Tn.cutI t k).m)]) ?_ rfl ⟨rfl, (by repeat' (first | (with_reducible exact Below.refl _ _) | (with_reducible assumption) | (with_reducible refine Below.alloc ?_ ?_ _) | (with_reducible refine Below.setCell ?_ ?_ _) | (with_reducible refine Below.drew ?_) | (with_reducible refine below_dn ?_ _) | (with_reducible refine Below.trans ?_ (Below.mono (by assumption) ?_)) | go_size))⟩
  rw [Tn.cutI_out hr (.inl h)]
  simp only [results, Try.results70]; simp [*, go_sem, ↓IntWalk.iteOmega]; try (first | rfl | exact ⟨rfl, rfl⟩)

theorem cut_out2 (t : Tn) (k : Int) (hr : t.right = true) (h : 63 < k) (w : World) : Calls Try.prog 70 #[.agg #[.int .u64 (N t.v), .int .u64 (N t.m)], .int .i64 k] w fun e w' => e = .returned (.agg #[.int .u64 (N (Tn.cutI t k).v), .int .u64 (N (Tn.cutI t k).m)]) ∧ Below w.heap.size w w' := by
  have h2 : ¬ k < 1 := by omega
  go_enter Try.func70, Try.ntmps70
  go_wp2_with (first | (go_at_call 49; (with_reducible refine (right_c ⟨_, _⟩ _).mono ?_); rintro e w1 ⟨rfl, hb1⟩; obtain ⟨hc1, hf1, hz1⟩ := bcell hb1; (try simp only [World.size_alloc, World.size_setCell, World.size_drew] at hc1 hf1 hz1)))
  refine bodyPost_ret (v := .agg #[.int .u64 (N (Tn.cutI t k).v), .int .u64 (N (Tn.cutI t k).m)]) ?_ rfl ⟨rfl, (by repeat' (first | (with_reducible exact Below.refl _ _) | (with_reducible assumption) | (with_reducible refine Below.alloc ?_ ?_ _) | (with_reducible refine Below.setCell ?_ ?_ _) | (with_reducible refine Below.drew ?_) | (with_reducible refine below_dn ?_ _) | (with_reducible refine Below.trans ?_ (Below.mono (by assumption) ?_)) | go_size))⟩
  rw [Tn.cutI_out hr (.inr h)]
  simp only [results, Try.results70]; simp [*, go_sem, ↓IntWalk.iteOmega]; try (first | rfl | exact ⟨rfl, rfl⟩)

theorem cut_in (t : Tn) (k : Int) (hr : t.right = true) (h0 : 1 ≤ k) (h1 : k ≤ 63) (w : World) : Calls Try.prog 70 #[.agg #[.int .u64 (N t.v), .int .u64 (N t.m)], .int .i64 k] w fun e w' => e = .returned (.agg #[.int .u64 (N (Tn.cutI t k).v), .int .u64 (N (Tn.cutI t k).m)]) ∧ Below w.heap.size w w' := by
  have h2 : ¬ k < 1 := by omega
  have h3 : ¬ 63 < k := by omega
  have h4 : 0 ≤ k := by omega
  go_enter Try.func70, Try.ntmps70
  go_wp2_with (first | (go_at_call 49; (with_reducible refine (right_c ⟨_, _⟩ _).mono ?_); rintro e w1 ⟨rfl, hb1⟩; obtain ⟨hc1, hf1, hz1⟩ := bcell hb1; (try simp only [World.size_alloc, World.size_setCell, World.size_drew] at hc1 hf1 hz1)))
  refine bodyPost_ret (v := .agg #[.int .u64 (N (Tn.cutI t k).v), .int .u64 (N (Tn.cutI t k).m)]) ?_ rfl ⟨rfl, (by repeat' (first | (with_reducible exact Below.refl _ _) | (with_reducible assumption) | (with_reducible refine Below.alloc ?_ ?_ _) | (with_reducible refine Below.setCell ?_ ?_ _) | (with_reducible refine Below.drew ?_) | (with_reducible refine below_dn ?_ _) | (with_reducible refine Below.trans ?_ (Below.mono (by assumption) ?_)) | go_size))⟩
  rw [Tn.cutI_in hr h0 h1]
  simp only [results, Try.results70]; simp [*, go_sem, ↓IntWalk.iteOmega]; try (first | rfl | exact ⟨rfl, rfl⟩)

theorem cut_c (t : Tn) (k : Int) (w : World) : Calls Try.prog 70 #[.agg #[.int .u64 (N t.v), .int .u64 (N t.m)], .int .i64 k] w fun e w' => e = .returned (.agg #[.int .u64 (N (Tn.cutI t k).v), .int .u64 (N (Tn.cutI t k).m)]) ∧ Below w.heap.size w w' := by
  cases hr : t.right
  · exact cut_no1 t k hr w
  by_cases h0 : k < 1
  · exact cut_out1 t k hr h0 w
  by_cases h1 : 63 < k
  · exact cut_out2 t k hr h1 w
  exact cut_in t k hr (by omega) (by omega) w

end Hk

namespace Hk
open Go Go.RowKit Go.Proofs
set_option linter.unusedSimpArgs false
set_option linter.unusedVariables false
set_option maxRecDepth 100000
theorem mul_done (a b : Tn) (j : Nat) (h : b.v >>> j ||| b.m >>> j = 0#64) : ∀ k, Tn.mulTo a b (j + k) = Tn.mulTo a b j := by
  intro k
  induction k with
  | zero => rfl
  | succ k ih =>
    have h1 := bt_congr h k
    rw [bt_or, bt_shr, bt_shr, bt_zero, Bool.or_eq_false_iff] at h1
    rw [← Nat.add_assoc]
    rw [Tn.mulTo, h1.1, h1.2]
    exact ih
theorem mul_end (a b : Tn) (j : Nat) (hj : j ≤ 64) (h : (b.v >>> j ||| b.m >>> j == 0#64) = true) : Tn.mulTo a b j = Tn.mul a b := by
  have := mul_done a b j (by simpa using h) (64 - j)
  rw [show j + (64 - j) = 64 by omega] at this
  exact this.symm
theorem mul_more (b : Tn) (j : Nat) (hj : j ≤ 64) (h : (b.v >>> j ||| b.m >>> j == 0#64) = false) : j < 64 := by
  apply Classical.byContradiction
  intro hn
  have e : j = 64 := by omega
  subst e
  have e1 : ∀ x : BitVec 64, x >>> 64 = 0#64 := fun x => bt_ext fun i hi => by rw [bt_shr, bt_ge _ _ (by omega), bt_zero]
  rw [e1, e1] at h
  simp at h
/-- What stands in memory ahead of the round j. -/
def MulAt (a b : Tn) (w : World) (j : Nat) (wr : World) : Prop :=
  wr.cell? ⟨w.heap.size, 0, none⟩ = some (.int .u64 (N (a.v <<< j))) ∧ wr.cell? ⟨w.heap.size, 1, none⟩ = some (.int .u64 (N (a.m <<< j))) ∧
  wr.cell? ⟨w.heap.size + 1, 0, none⟩ = some (.int .u64 (N (b.v >>> j))) ∧ wr.cell? ⟨w.heap.size + 1, 1, none⟩ = some (.int .u64 (N (b.m >>> j))) ∧
  wr.cell? ⟨w.heap.size + 1 + 1 + 1, 0, none⟩ = some (.int .u64 (N (Tn.mulTo a b j).v)) ∧ wr.cell? ⟨w.heap.size + 1 + 1 + 1, 1, none⟩ = some (.int .u64 (N (Tn.mulTo a b j).m)) ∧
  (wr.cell? ⟨w.heap.size + 1 + 1, 0, none⟩ = some (.int .u64 (N 0#64))) ∧ (wr.cell? ⟨w.heap.size + 1 + 1, 1, none⟩ = some (.int .u64 (N 0#64))) ∧
  (∀ o, wr.frozen? ⟨w.heap.size, o, none⟩ = false) ∧ (∀ o, wr.frozen? ⟨w.heap.size + 1, o, none⟩ = false) ∧ (∀ o, wr.frozen? ⟨w.heap.size + 1 + 1, o, none⟩ = false) ∧ (∀ o, wr.frozen? ⟨w.heap.size + 1 + 1 + 1, o, none⟩ = false) ∧
  w.heap.size + 1 + 1 + 1 < wr.heap.size ∧ Below w.heap.size w wr
set_option maxHeartbeats 1000000 in
theorem mul_c (a b : Tn) (w : World) : Calls Try.prog 108 #[.agg #[.int .u64 (N a.v), .int .u64 (N a.m)], .agg #[.int .u64 (N b.v), .int .u64 (N b.m)]] w fun e w' => e = .returned (.agg #[.int .u64 (N (Tn.mul a b).v), .int .u64 (N (Tn.mul a b).m)]) ∧ Below w.heap.size w w' := by
  go_enter Try.func108, Try.ntmps108
  go_wp2_with fail
  go_loopg [] 64 (fun g wr => ∃ j, j ≤ 64 ∧ g + j ≤ 64 ∧ 64 ≤ g + j ∧ MulAt a b w j wr)
  case atStart =>
    refine ⟨0, by omega, by omega, by omega, ?_⟩
    unfold MulAt
    refine ⟨?_, ?_, ?_, ?_, ?_, ?_, ?_, ?_, ?_, ?_, ?_, ?_, (by simp only [World.size_alloc, World.size_setCell, World.size_drew]; omega), (by repeat' (first | (with_reducible exact Below.refl _ _) | (with_reducible assumption) | (with_reducible refine Below.alloc ?_ ?_ _) | (with_reducible refine Below.setCell ?_ ?_ _) | (with_reducible refine Below.drew ?_) | (with_reducible refine below_dn ?_ _) | (with_reducible refine Below.trans ?_ (Below.mono (by assumption) ?_)) | go_size))⟩
    all_goals first | (intro o; simp [go_sem]; done) | (simp [go_sem, Tn.mulTo]; try rfl)
  case round =>
    obtain ⟨j, hj0, hj1, hj2, c0, c1, c2, c3, c4, c5, c6, c7, f0, f1, f2, f3, hz, hb⟩ := hrel
    cases h0 : (b.v >>> j ||| b.m >>> j == 0#64)
    · have hj : j < 64 := mul_more b j hj0 h0
      have q1 := bit_and1 b.v j
      have q2 := bit_and1 b.m j
      cases hv : bt b.v j
      · cases hm : bt b.m j
        all_goals
          rw [hv] at q1
          rw [hm] at q2
          go_wp2_with (first | (go_at_call 107; (with_reducible refine (add_c ⟨_, _⟩ ⟨_, _⟩ _).mono ?_); rintro e w1 ⟨rfl, hb1⟩; obtain ⟨hc1, hf1, hz1⟩ := bcell hb1; (try simp only [World.size_alloc, World.size_setCell, World.size_drew] at hc1 hf1 hz1)))
          go_roundg (gk - 1)
          case measure => omega
          case rel =>
            refine ⟨j + 1, by omega, by omega, by omega, ?_⟩
            unfold MulAt
            refine ⟨?_, ?_, ?_, ?_, ?_, ?_, ?_, ?_, ?_, ?_, ?_, ?_, (by simp only [World.size_alloc, World.size_setCell, World.size_drew]; omega), (by repeat' (first | (with_reducible exact Below.refl _ _) | (with_reducible assumption) | (with_reducible refine Below.alloc ?_ ?_ _) | (with_reducible refine Below.setCell ?_ ?_ _) | (with_reducible refine Below.drew ?_) | (with_reducible refine below_dn ?_ _) | (with_reducible refine Below.trans ?_ (Below.mono (by assumption) ?_)) | go_size))⟩
            any_goals (intro o; simp [*, go_sem, ↓IntWalk.iteOmega]; done)
            all_goals (simp [*, go_sem, ↓IntWalk.iteOmega, Tn.mulTo, BitVec.shiftLeft_add, BitVec.shiftRight_add, BitVec.shiftLeft_or_distrib])
      · rw [hv] at q1
        go_wp2_with (first | (go_at_call 107; (with_reducible refine (add_c ⟨_, _⟩ ⟨_, _⟩ _).mono ?_); rintro e w1 ⟨rfl, hb1⟩; obtain ⟨hc1, hf1, hz1⟩ := bcell hb1; (try simp only [World.size_alloc, World.size_setCell, World.size_drew] at hc1 hf1 hz1)))
        go_roundg (gk - 1)
        case measure => omega
        case rel =>
          refine ⟨j + 1, by omega, by omega, by omega, ?_⟩
          unfold MulAt
          refine ⟨?_, ?_, ?_, ?_, ?_, ?_, ?_, ?_, ?_, ?_, ?_, ?_, (by simp only [World.size_alloc, World.size_setCell, World.size_drew]; omega), (by repeat' (first | (with_reducible exact Below.refl _ _) | (with_reducible assumption) | (with_reducible refine Below.alloc ?_ ?_ _) | (with_reducible refine Below.setCell ?_ ?_ _) | (with_reducible refine Below.drew ?_) | (with_reducible refine below_dn ?_ _) | (with_reducible refine Below.trans ?_ (Below.mono (by assumption) ?_)) | go_size))⟩
          any_goals (intro o; simp [*, go_sem, ↓IntWalk.iteOmega]; done)
          all_goals (simp [*, go_sem, ↓IntWalk.iteOmega, Tn.mulTo, BitVec.shiftLeft_add, BitVec.shiftRight_add, BitVec.shiftLeft_or_distrib])
    · have E := mul_end a b j hj0 h0
      have HE := Lib.hid E
      clear E
      go_wp2
      refine bodyPost_ret (v := .agg #[.int .u64 (N (Tn.mul a b).v), .int .u64 (N (Tn.mul a b).m)]) ?_ rfl ⟨rfl, (by repeat' (first | (with_reducible exact Below.refl _ _) | (with_reducible assumption) | (with_reducible refine Below.alloc ?_ ?_ _) | (with_reducible refine Below.setCell ?_ ?_ _) | (with_reducible refine Below.drew ?_) | (with_reducible refine below_dn ?_ _) | (with_reducible refine Below.trans ?_ (Below.mono (by assumption) ?_)) | go_size))⟩
      simp only [results, Try.results108]; rw [← HE.out]; simp [*, go_sem, ↓IntWalk.iteOmega]

end Hk

namespace Hk
open Go Go.RowKit Go.Proofs
set_option linter.unusedSimpArgs false
set_option linter.unusedVariables false
set_option maxRecDepth 100000
theorem do_no1 (op : Int) (a b : Tn) (ha : a.right = false) (w : World) : Calls Try.prog 86 #[.int .u8 op, .agg #[.int .u64 (N a.v), .int .u64 (N a.m)], .agg #[.int .u64 (N b.v), .int .u64 (N b.m)]] w fun e w' => e = .returned (.tuple #[.agg #[.int .u64 (N ((Tn.do_ (op) a b).getD ⟨0, 0⟩).v), .int .u64 (N ((Tn.do_ (op) a b).getD ⟨0, 0⟩).m)], .bool (Tn.do_ (op) a b).isSome]) ∧ Below w.heap.size w w' := by
  have E : Tn.do_ (op) a b = none := by unfold Tn.do_; simp [ha]
  rw [E]; clear E
  go_enter Try.func86, Try.ntmps86
  go_wp2_with (first | (go_at_call 91; (with_reducible refine (both_c ⟨_, _⟩ ⟨_, _⟩ _).mono ?_); rintro e w1 ⟨rfl, hb1⟩; obtain ⟨hc1, hf1, hz1⟩ := bcell hb1; (try simp only [World.size_alloc, World.size_setCell, World.size_drew] at hc1 hf1 hz1)))
  refine bodyPost_ret ?_ rfl ⟨rfl, (by repeat' (first | (with_reducible exact Below.refl _ _) | (with_reducible assumption) | (with_reducible refine Below.alloc ?_ ?_ _) | (with_reducible refine Below.setCell ?_ ?_ _) | (with_reducible refine Below.drew ?_) | (with_reducible refine below_dn ?_ _) | (with_reducible refine Below.trans ?_ (Below.mono (by assumption) ?_)) | go_size))⟩
  simp only [results, Try.results86]; simp [*, go_sem, ↓IntWalk.iteOmega]; try (first | rfl | exact ⟨rfl, rfl⟩)

theorem do_no2 (op : Int) (a b : Tn) (ha : a.right = true) (hb : b.right = false) (w : World) : Calls Try.prog 86 #[.int .u8 op, .agg #[.int .u64 (N a.v), .int .u64 (N a.m)], .agg #[.int .u64 (N b.v), .int .u64 (N b.m)]] w fun e w' => e = .returned (.tuple #[.agg #[.int .u64 (N ((Tn.do_ (op) a b).getD ⟨0, 0⟩).v), .int .u64 (N ((Tn.do_ (op) a b).getD ⟨0, 0⟩).m)], .bool (Tn.do_ (op) a b).isSome]) ∧ Below w.heap.size w w' := by
  have E : Tn.do_ (op) a b = none := by unfold Tn.do_; simp [hb]
  rw [E]; clear E
  go_enter Try.func86, Try.ntmps86
  go_wp2_with (first | (go_at_call 91; (with_reducible refine (both_c ⟨_, _⟩ ⟨_, _⟩ _).mono ?_); rintro e w1 ⟨rfl, hb1⟩; obtain ⟨hc1, hf1, hz1⟩ := bcell hb1; (try simp only [World.size_alloc, World.size_setCell, World.size_drew] at hc1 hf1 hz1)))
  refine bodyPost_ret ?_ rfl ⟨rfl, (by repeat' (first | (with_reducible exact Below.refl _ _) | (with_reducible assumption) | (with_reducible refine Below.alloc ?_ ?_ _) | (with_reducible refine Below.setCell ?_ ?_ _) | (with_reducible refine Below.drew ?_) | (with_reducible refine below_dn ?_ _) | (with_reducible refine Below.trans ?_ (Below.mono (by assumption) ?_)) | go_size))⟩
  simp only [results, Try.results86]; simp [*, go_sem, ↓IntWalk.iteOmega]; try (first | rfl | exact ⟨rfl, rfl⟩)

theorem do_add (a b : Tn) (ha : a.right = true) (hb : b.right = true) (w : World) : Calls Try.prog 86 #[.int .u8 0, .agg #[.int .u64 (N a.v), .int .u64 (N a.m)], .agg #[.int .u64 (N b.v), .int .u64 (N b.m)]] w fun e w' => e = .returned (.tuple #[.agg #[.int .u64 (N ((Tn.do_ (0) a b).getD ⟨0, 0⟩).v), .int .u64 (N ((Tn.do_ (0) a b).getD ⟨0, 0⟩).m)], .bool (Tn.do_ (0) a b).isSome]) ∧ Below w.heap.size w w' := by
  cases hk : (b.m == 0#64) <;> cases hl : decide (b.v < 64#64)
  all_goals
    have E : Tn.do_ (0) a b = some (Tn.add a b) := by unfold Tn.do_; simp [ha, hb]
    rw [E]; clear E
    go_enter Try.func86, Try.ntmps86
    go_wp2_with (first | (go_at_call 91; (with_reducible refine (both_c ⟨_, _⟩ ⟨_, _⟩ _).mono ?_); rintro e w1 ⟨rfl, hb1⟩; obtain ⟨hc1, hf1, hz1⟩ := bcell hb1; (try simp only [World.size_alloc, World.size_setCell, World.size_drew] at hc1 hf1 hz1)) | (go_at_call 107; (with_reducible refine (add_c ⟨_, _⟩ ⟨_, _⟩ _).mono ?_); rintro e w1 ⟨rfl, hb1⟩; obtain ⟨hc1, hf1, hz1⟩ := bcell hb1; (try simp only [World.size_alloc, World.size_setCell, World.size_drew] at hc1 hf1 hz1)))
    refine bodyPost_ret ?_ rfl ⟨rfl, (by repeat' (first | (with_reducible exact Below.refl _ _) | (with_reducible assumption) | (with_reducible refine Below.alloc ?_ ?_ _) | (with_reducible refine Below.setCell ?_ ?_ _) | (with_reducible refine Below.drew ?_) | (with_reducible refine below_dn ?_ _) | (with_reducible refine Below.trans ?_ (Below.mono (by assumption) ?_)) | go_size))⟩
    simp only [results, Try.results86]; simp [*, go_sem, ↓IntWalk.iteOmega]; try (first | rfl | exact ⟨rfl, rfl⟩)

theorem do_sub (a b : Tn) (ha : a.right = true) (hb : b.right = true) (w : World) : Calls Try.prog 86 #[.int .u8 16, .agg #[.int .u64 (N a.v), .int .u64 (N a.m)], .agg #[.int .u64 (N b.v), .int .u64 (N b.m)]] w fun e w' => e = .returned (.tuple #[.agg #[.int .u64 (N ((Tn.do_ (16) a b).getD ⟨0, 0⟩).v), .int .u64 (N ((Tn.do_ (16) a b).getD ⟨0, 0⟩).m)], .bool (Tn.do_ (16) a b).isSome]) ∧ Below w.heap.size w w' := by
  cases hk : (b.m == 0#64) <;> cases hl : decide (b.v < 64#64)
  all_goals
    have E : Tn.do_ (16) a b = some (Tn.sub a b) := by unfold Tn.do_; simp [ha, hb]
    rw [E]; clear E
    go_enter Try.func86, Try.ntmps86
    go_wp2_with (first | (go_at_call 91; (with_reducible refine (both_c ⟨_, _⟩ ⟨_, _⟩ _).mono ?_); rintro e w1 ⟨rfl, hb1⟩; obtain ⟨hc1, hf1, hz1⟩ := bcell hb1; (try simp only [World.size_alloc, World.size_setCell, World.size_drew] at hc1 hf1 hz1)) | (go_at_call 92; (with_reducible refine (made_c _ _ _).mono ?_); rintro e w1 ⟨rfl, hb1⟩; obtain ⟨hc1, hf1, hz1⟩ := bcell hb1; (try simp only [World.size_alloc, World.size_setCell, World.size_drew] at hc1 hf1 hz1)))
    refine bodyPost_ret ?_ rfl ⟨rfl, (by repeat' (first | (with_reducible exact Below.refl _ _) | (with_reducible assumption) | (with_reducible refine Below.alloc ?_ ?_ _) | (with_reducible refine Below.setCell ?_ ?_ _) | (with_reducible refine Below.drew ?_) | (with_reducible refine below_dn ?_ _) | (with_reducible refine Below.trans ?_ (Below.mono (by assumption) ?_)) | go_size))⟩
    simp only [results, Try.results86]; simp [*, go_sem, ↓IntWalk.iteOmega]; try (first | rfl | exact ⟨rfl, rfl⟩)

theorem do_mul (a b : Tn) (ha : a.right = true) (hb : b.right = true) (w : World) : Calls Try.prog 86 #[.int .u8 32, .agg #[.int .u64 (N a.v), .int .u64 (N a.m)], .agg #[.int .u64 (N b.v), .int .u64 (N b.m)]] w fun e w' => e = .returned (.tuple #[.agg #[.int .u64 (N ((Tn.do_ (32) a b).getD ⟨0, 0⟩).v), .int .u64 (N ((Tn.do_ (32) a b).getD ⟨0, 0⟩).m)], .bool (Tn.do_ (32) a b).isSome]) ∧ Below w.heap.size w w' := by
  cases hk : (b.m == 0#64) <;> cases hl : decide (b.v < 64#64)
  all_goals
    have E : Tn.do_ (32) a b = some (Tn.mul a b) := by unfold Tn.do_; simp [ha, hb]
    rw [E]; clear E
    go_enter Try.func86, Try.ntmps86
    go_wp2_with (first | (go_at_call 91; (with_reducible refine (both_c ⟨_, _⟩ ⟨_, _⟩ _).mono ?_); rintro e w1 ⟨rfl, hb1⟩; obtain ⟨hc1, hf1, hz1⟩ := bcell hb1; (try simp only [World.size_alloc, World.size_setCell, World.size_drew] at hc1 hf1 hz1)) | (go_at_call 108; (with_reducible refine (mul_c ⟨_, _⟩ ⟨_, _⟩ _).mono ?_); rintro e w1 ⟨rfl, hb1⟩; obtain ⟨hc1, hf1, hz1⟩ := bcell hb1; (try simp only [World.size_alloc, World.size_setCell, World.size_drew] at hc1 hf1 hz1)))
    refine bodyPost_ret ?_ rfl ⟨rfl, (by repeat' (first | (with_reducible exact Below.refl _ _) | (with_reducible assumption) | (with_reducible refine Below.alloc ?_ ?_ _) | (with_reducible refine Below.setCell ?_ ?_ _) | (with_reducible refine Below.drew ?_) | (with_reducible refine below_dn ?_ _) | (with_reducible refine Below.trans ?_ (Below.mono (by assumption) ?_)) | go_size))⟩
    simp only [results, Try.results86]; simp [*, go_sem, ↓IntWalk.iteOmega]; try (first | rfl | exact ⟨rfl, rfl⟩)

theorem do_and (a b : Tn) (ha : a.right = true) (hb : b.right = true) (w : World) : Calls Try.prog 86 #[.int .u8 80, .agg #[.int .u64 (N a.v), .int .u64 (N a.m)], .agg #[.int .u64 (N b.v), .int .u64 (N b.m)]] w fun e w' => e = .returned (.tuple #[.agg #[.int .u64 (N ((Tn.do_ (80) a b).getD ⟨0, 0⟩).v), .int .u64 (N ((Tn.do_ (80) a b).getD ⟨0, 0⟩).m)], .bool (Tn.do_ (80) a b).isSome]) ∧ Below w.heap.size w w' := by
  cases hk : (b.m == 0#64) <;> cases hl : decide (b.v < 64#64)
  all_goals
    have E : Tn.do_ (80) a b = some (Tn.and a b) := by unfold Tn.do_; simp [ha, hb]
    rw [E]; clear E
    go_enter Try.func86, Try.ntmps86
    go_wp2_with (first | (go_at_call 91; (with_reducible refine (both_c ⟨_, _⟩ ⟨_, _⟩ _).mono ?_); rintro e w1 ⟨rfl, hb1⟩; obtain ⟨hc1, hf1, hz1⟩ := bcell hb1; (try simp only [World.size_alloc, World.size_setCell, World.size_drew] at hc1 hf1 hz1)))
    refine bodyPost_ret ?_ rfl ⟨rfl, (by repeat' (first | (with_reducible exact Below.refl _ _) | (with_reducible assumption) | (with_reducible refine Below.alloc ?_ ?_ _) | (with_reducible refine Below.setCell ?_ ?_ _) | (with_reducible refine Below.drew ?_) | (with_reducible refine below_dn ?_ _) | (with_reducible refine Below.trans ?_ (Below.mono (by assumption) ?_)) | go_size))⟩
    simp only [results, Try.results86]; simp [*, go_sem, ↓IntWalk.iteOmega]; try (first | rfl | exact ⟨rfl, rfl⟩)

end Hk

namespace Hk
open Go Go.RowKit Go.Proofs
set_option linter.unusedSimpArgs false
set_option linter.unusedVariables false
set_option maxRecDepth 100000
theorem do_or (a b : Tn) (ha : a.right = true) (hb : b.right = true) (w : World) : Calls Try.prog 86 #[.int .u8 64, .agg #[.int .u64 (N a.v), .int .u64 (N a.m)], .agg #[.int .u64 (N b.v), .int .u64 (N b.m)]] w fun e w' => e = .returned (.tuple #[.agg #[.int .u64 (N ((Tn.do_ (64) a b).getD ⟨0, 0⟩).v), .int .u64 (N ((Tn.do_ (64) a b).getD ⟨0, 0⟩).m)], .bool (Tn.do_ (64) a b).isSome]) ∧ Below w.heap.size w w' := by
  cases hk : (b.m == 0#64) <;> cases hl : decide (b.v < 64#64)
  all_goals
    have E : Tn.do_ (64) a b = some (Tn.or a b) := by unfold Tn.do_; simp [ha, hb]
    rw [E]; clear E
    go_enter Try.func86, Try.ntmps86
    go_wp2_with (first | (go_at_call 91; (with_reducible refine (both_c ⟨_, _⟩ ⟨_, _⟩ _).mono ?_); rintro e w1 ⟨rfl, hb1⟩; obtain ⟨hc1, hf1, hz1⟩ := bcell hb1; (try simp only [World.size_alloc, World.size_setCell, World.size_drew] at hc1 hf1 hz1)))
    refine bodyPost_ret ?_ rfl ⟨rfl, (by repeat' (first | (with_reducible exact Below.refl _ _) | (with_reducible assumption) | (with_reducible refine Below.alloc ?_ ?_ _) | (with_reducible refine Below.setCell ?_ ?_ _) | (with_reducible refine Below.drew ?_) | (with_reducible refine below_dn ?_ _) | (with_reducible refine Below.trans ?_ (Below.mono (by assumption) ?_)) | go_size))⟩
    simp only [results, Try.results86]; simp [*, go_sem, ↓IntWalk.iteOmega]; try (first | rfl | exact ⟨rfl, rfl⟩)

theorem do_xor (a b : Tn) (ha : a.right = true) (hb : b.right = true) (w : World) : Calls Try.prog 86 #[.int .u8 160, .agg #[.int .u64 (N a.v), .int .u64 (N a.m)], .agg #[.int .u64 (N b.v), .int .u64 (N b.m)]] w fun e w' => e = .returned (.tuple #[.agg #[.int .u64 (N ((Tn.do_ (160) a b).getD ⟨0, 0⟩).v), .int .u64 (N ((Tn.do_ (160) a b).getD ⟨0, 0⟩).m)], .bool (Tn.do_ (160) a b).isSome]) ∧ Below w.heap.size w w' := by
  cases hk : (b.m == 0#64) <;> cases hl : decide (b.v < 64#64)
  all_goals
    have E : Tn.do_ (160) a b = some (Tn.xor a b) := by unfold Tn.do_; simp [ha, hb]
    rw [E]; clear E
    go_enter Try.func86, Try.ntmps86
    go_wp2_with (first | (go_at_call 91; (with_reducible refine (both_c ⟨_, _⟩ ⟨_, _⟩ _).mono ?_); rintro e w1 ⟨rfl, hb1⟩; obtain ⟨hc1, hf1, hz1⟩ := bcell hb1; (try simp only [World.size_alloc, World.size_setCell, World.size_drew] at hc1 hf1 hz1)) | (go_at_call 92; (with_reducible refine (made_c _ _ _).mono ?_); rintro e w1 ⟨rfl, hb1⟩; obtain ⟨hc1, hf1, hz1⟩ := bcell hb1; (try simp only [World.size_alloc, World.size_setCell, World.size_drew] at hc1 hf1 hz1)))
    refine bodyPost_ret ?_ rfl ⟨rfl, (by repeat' (first | (with_reducible exact Below.refl _ _) | (with_reducible assumption) | (with_reducible refine Below.alloc ?_ ?_ _) | (with_reducible refine Below.setCell ?_ ?_ _) | (with_reducible refine Below.drew ?_) | (with_reducible refine below_dn ?_ _) | (with_reducible refine Below.trans ?_ (Below.mono (by assumption) ?_)) | go_size))⟩
    simp only [results, Try.results86]; simp [*, go_sem, ↓IntWalk.iteOmega]; try (first | rfl | exact ⟨rfl, rfl⟩)

theorem do_lsh1 (a b : Tn) (ha : a.right = true) (hb : b.right = true) (hk : (b.m == 0#64) = true) (hl : decide (b.v < 64#64) = true) (w : World) : Calls Try.prog 86 #[.int .u8 96, .agg #[.int .u64 (N a.v), .int .u64 (N a.m)], .agg #[.int .u64 (N b.v), .int .u64 (N b.m)]] w fun e w' => e = .returned (.tuple #[.agg #[.int .u64 (N ((Tn.do_ (96) a b).getD ⟨0, 0⟩).v), .int .u64 (N ((Tn.do_ (96) a b).getD ⟨0, 0⟩).m)], .bool (Tn.do_ (96) a b).isSome]) ∧ Below w.heap.size w w' := by
  have E : Tn.do_ (96) a b = some ⟨a.v <<< b.v.toNat, a.m <<< b.v.toNat⟩ := by unfold Tn.do_; simp [ha, hb, Tn.moves, hk, hl]
  rw [E]; clear E
  go_enter Try.func86, Try.ntmps86
  go_wp2_with (first | (go_at_call 91; (with_reducible refine (both_c ⟨_, _⟩ ⟨_, _⟩ _).mono ?_); rintro e w1 ⟨rfl, hb1⟩; obtain ⟨hc1, hf1, hz1⟩ := bcell hb1; (try simp only [World.size_alloc, World.size_setCell, World.size_drew] at hc1 hf1 hz1)))
  refine bodyPost_ret ?_ rfl ⟨rfl, (by repeat' (first | (with_reducible exact Below.refl _ _) | (with_reducible assumption) | (with_reducible refine Below.alloc ?_ ?_ _) | (with_reducible refine Below.setCell ?_ ?_ _) | (with_reducible refine Below.drew ?_) | (with_reducible refine below_dn ?_ _) | (with_reducible refine Below.trans ?_ (Below.mono (by assumption) ?_)) | go_size))⟩
  simp only [results, Try.results86]; simp [*, go_sem, ↓IntWalk.iteOmega]; try (first | rfl | exact ⟨rfl, rfl⟩)

theorem do_lsh2 (a b : Tn) (ha : a.right = true) (hb : b.right = true) (hk : (b.m == 0#64) = true) (hl : decide (b.v < 64#64) = false) (w : World) : Calls Try.prog 86 #[.int .u8 96, .agg #[.int .u64 (N a.v), .int .u64 (N a.m)], .agg #[.int .u64 (N b.v), .int .u64 (N b.m)]] w fun e w' => e = .returned (.tuple #[.agg #[.int .u64 (N ((Tn.do_ (96) a b).getD ⟨0, 0⟩).v), .int .u64 (N ((Tn.do_ (96) a b).getD ⟨0, 0⟩).m)], .bool (Tn.do_ (96) a b).isSome]) ∧ Below w.heap.size w w' := by
  have E : Tn.do_ (96) a b = none := by unfold Tn.do_; simp [ha, hb, Tn.moves, hk, hl]
  rw [E]; clear E
  go_enter Try.func86, Try.ntmps86
  go_wp2_with (first | (go_at_call 91; (with_reducible refine (both_c ⟨_, _⟩ ⟨_, _⟩ _).mono ?_); rintro e w1 ⟨rfl, hb1⟩; obtain ⟨hc1, hf1, hz1⟩ := bcell hb1; (try simp only [World.size_alloc, World.size_setCell, World.size_drew] at hc1 hf1 hz1)))
  refine bodyPost_ret ?_ rfl ⟨rfl, (by repeat' (first | (with_reducible exact Below.refl _ _) | (with_reducible assumption) | (with_reducible refine Below.alloc ?_ ?_ _) | (with_reducible refine Below.setCell ?_ ?_ _) | (with_reducible refine Below.drew ?_) | (with_reducible refine below_dn ?_ _) | (with_reducible refine Below.trans ?_ (Below.mono (by assumption) ?_)) | go_size))⟩
  simp only [results, Try.results86]; simp [*, go_sem, ↓IntWalk.iteOmega]; try (first | rfl | exact ⟨rfl, rfl⟩)

theorem do_lsh3 (a b : Tn) (ha : a.right = true) (hb : b.right = true) (hk : (b.m == 0#64) = false) (w : World) : Calls Try.prog 86 #[.int .u8 96, .agg #[.int .u64 (N a.v), .int .u64 (N a.m)], .agg #[.int .u64 (N b.v), .int .u64 (N b.m)]] w fun e w' => e = .returned (.tuple #[.agg #[.int .u64 (N ((Tn.do_ (96) a b).getD ⟨0, 0⟩).v), .int .u64 (N ((Tn.do_ (96) a b).getD ⟨0, 0⟩).m)], .bool (Tn.do_ (96) a b).isSome]) ∧ Below w.heap.size w w' := by
  have E : Tn.do_ (96) a b = none := by unfold Tn.do_; simp [ha, hb, Tn.moves, hk]
  rw [E]; clear E
  go_enter Try.func86, Try.ntmps86
  go_wp2_with (first | (go_at_call 91; (with_reducible refine (both_c ⟨_, _⟩ ⟨_, _⟩ _).mono ?_); rintro e w1 ⟨rfl, hb1⟩; obtain ⟨hc1, hf1, hz1⟩ := bcell hb1; (try simp only [World.size_alloc, World.size_setCell, World.size_drew] at hc1 hf1 hz1)))
  refine bodyPost_ret ?_ rfl ⟨rfl, (by repeat' (first | (with_reducible exact Below.refl _ _) | (with_reducible assumption) | (with_reducible refine Below.alloc ?_ ?_ _) | (with_reducible refine Below.setCell ?_ ?_ _) | (with_reducible refine Below.drew ?_) | (with_reducible refine below_dn ?_ _) | (with_reducible refine Below.trans ?_ (Below.mono (by assumption) ?_)) | go_size))⟩
  simp only [results, Try.results86]; simp [*, go_sem, ↓IntWalk.iteOmega]; try (first | rfl | exact ⟨rfl, rfl⟩)

theorem do_rsh1 (a b : Tn) (ha : a.right = true) (hb : b.right = true) (hk : (b.m == 0#64) = true) (hl : decide (b.v < 64#64) = true) (w : World) : Calls Try.prog 86 #[.int .u8 112, .agg #[.int .u64 (N a.v), .int .u64 (N a.m)], .agg #[.int .u64 (N b.v), .int .u64 (N b.m)]] w fun e w' => e = .returned (.tuple #[.agg #[.int .u64 (N ((Tn.do_ (112) a b).getD ⟨0, 0⟩).v), .int .u64 (N ((Tn.do_ (112) a b).getD ⟨0, 0⟩).m)], .bool (Tn.do_ (112) a b).isSome]) ∧ Below w.heap.size w w' := by
  have E : Tn.do_ (112) a b = some ⟨a.v >>> b.v.toNat, a.m >>> b.v.toNat⟩ := by unfold Tn.do_; simp [ha, hb, Tn.moves, hk, hl]
  rw [E]; clear E
  go_enter Try.func86, Try.ntmps86
  go_wp2_with (first | (go_at_call 91; (with_reducible refine (both_c ⟨_, _⟩ ⟨_, _⟩ _).mono ?_); rintro e w1 ⟨rfl, hb1⟩; obtain ⟨hc1, hf1, hz1⟩ := bcell hb1; (try simp only [World.size_alloc, World.size_setCell, World.size_drew] at hc1 hf1 hz1)))
  refine bodyPost_ret ?_ rfl ⟨rfl, (by repeat' (first | (with_reducible exact Below.refl _ _) | (with_reducible assumption) | (with_reducible refine Below.alloc ?_ ?_ _) | (with_reducible refine Below.setCell ?_ ?_ _) | (with_reducible refine Below.drew ?_) | (with_reducible refine below_dn ?_ _) | (with_reducible refine Below.trans ?_ (Below.mono (by assumption) ?_)) | go_size))⟩
  simp only [results, Try.results86]; simp [*, go_sem, ↓IntWalk.iteOmega]; try (first | rfl | exact ⟨rfl, rfl⟩)

theorem do_rsh2 (a b : Tn) (ha : a.right = true) (hb : b.right = true) (hk : (b.m == 0#64) = true) (hl : decide (b.v < 64#64) = false) (w : World) : Calls Try.prog 86 #[.int .u8 112, .agg #[.int .u64 (N a.v), .int .u64 (N a.m)], .agg #[.int .u64 (N b.v), .int .u64 (N b.m)]] w fun e w' => e = .returned (.tuple #[.agg #[.int .u64 (N ((Tn.do_ (112) a b).getD ⟨0, 0⟩).v), .int .u64 (N ((Tn.do_ (112) a b).getD ⟨0, 0⟩).m)], .bool (Tn.do_ (112) a b).isSome]) ∧ Below w.heap.size w w' := by
  have E : Tn.do_ (112) a b = none := by unfold Tn.do_; simp [ha, hb, Tn.moves, hk, hl]
  rw [E]; clear E
  go_enter Try.func86, Try.ntmps86
  go_wp2_with (first | (go_at_call 91; (with_reducible refine (both_c ⟨_, _⟩ ⟨_, _⟩ _).mono ?_); rintro e w1 ⟨rfl, hb1⟩; obtain ⟨hc1, hf1, hz1⟩ := bcell hb1; (try simp only [World.size_alloc, World.size_setCell, World.size_drew] at hc1 hf1 hz1)))
  refine bodyPost_ret ?_ rfl ⟨rfl, (by repeat' (first | (with_reducible exact Below.refl _ _) | (with_reducible assumption) | (with_reducible refine Below.alloc ?_ ?_ _) | (with_reducible refine Below.setCell ?_ ?_ _) | (with_reducible refine Below.drew ?_) | (with_reducible refine below_dn ?_ _) | (with_reducible refine Below.trans ?_ (Below.mono (by assumption) ?_)) | go_size))⟩
  simp only [results, Try.results86]; simp [*, go_sem, ↓IntWalk.iteOmega]; try (first | rfl | exact ⟨rfl, rfl⟩)

theorem do_rsh3 (a b : Tn) (ha : a.right = true) (hb : b.right = true) (hk : (b.m == 0#64) = false) (w : World) : Calls Try.prog 86 #[.int .u8 112, .agg #[.int .u64 (N a.v), .int .u64 (N a.m)], .agg #[.int .u64 (N b.v), .int .u64 (N b.m)]] w fun e w' => e = .returned (.tuple #[.agg #[.int .u64 (N ((Tn.do_ (112) a b).getD ⟨0, 0⟩).v), .int .u64 (N ((Tn.do_ (112) a b).getD ⟨0, 0⟩).m)], .bool (Tn.do_ (112) a b).isSome]) ∧ Below w.heap.size w w' := by
  have E : Tn.do_ (112) a b = none := by unfold Tn.do_; simp [ha, hb, Tn.moves, hk]
  rw [E]; clear E
  go_enter Try.func86, Try.ntmps86
  go_wp2_with (first | (go_at_call 91; (with_reducible refine (both_c ⟨_, _⟩ ⟨_, _⟩ _).mono ?_); rintro e w1 ⟨rfl, hb1⟩; obtain ⟨hc1, hf1, hz1⟩ := bcell hb1; (try simp only [World.size_alloc, World.size_setCell, World.size_drew] at hc1 hf1 hz1)))
  refine bodyPost_ret ?_ rfl ⟨rfl, (by repeat' (first | (with_reducible exact Below.refl _ _) | (with_reducible assumption) | (with_reducible refine Below.alloc ?_ ?_ _) | (with_reducible refine Below.setCell ?_ ?_ _) | (with_reducible refine Below.drew ?_) | (with_reducible refine below_dn ?_ _) | (with_reducible refine Below.trans ?_ (Below.mono (by assumption) ?_)) | go_size))⟩
  simp only [results, Try.results86]; simp [*, go_sem, ↓IntWalk.iteOmega]; try (first | rfl | exact ⟨rfl, rfl⟩)

theorem do_else (op : Int) (a b : Tn) (ha : a.right = true) (hb : b.right = true) (n0 : ¬ op = 0) (n16 : ¬ op = 16) (n32 : ¬ op = 32) (n80 : ¬ op = 80) (n64 : ¬ op = 64) (n160 : ¬ op = 160) (n96 : ¬ op = 96) (n112 : ¬ op = 112) (w : World) : Calls Try.prog 86 #[.int .u8 op, .agg #[.int .u64 (N a.v), .int .u64 (N a.m)], .agg #[.int .u64 (N b.v), .int .u64 (N b.m)]] w fun e w' => e = .returned (.tuple #[.agg #[.int .u64 (N ((Tn.do_ (op) a b).getD ⟨0, 0⟩).v), .int .u64 (N ((Tn.do_ (op) a b).getD ⟨0, 0⟩).m)], .bool (Tn.do_ (op) a b).isSome]) ∧ Below w.heap.size w w' := by
  cases hk : (b.m == 0#64) <;> cases hl : decide (b.v < 64#64)
  all_goals
    have E : Tn.do_ (op) a b = none := by unfold Tn.do_; simp [ha, hb, n0, n16, n32, n80, n64, n160, n96, n112]
    rw [E]; clear E
    go_enter Try.func86, Try.ntmps86
    go_wp2_with (first | (go_at_call 91; (with_reducible refine (both_c ⟨_, _⟩ ⟨_, _⟩ _).mono ?_); rintro e w1 ⟨rfl, hb1⟩; obtain ⟨hc1, hf1, hz1⟩ := bcell hb1; (try simp only [World.size_alloc, World.size_setCell, World.size_drew] at hc1 hf1 hz1)))
    refine bodyPost_ret ?_ rfl ⟨rfl, (by repeat' (first | (with_reducible exact Below.refl _ _) | (with_reducible assumption) | (with_reducible refine Below.alloc ?_ ?_ _) | (with_reducible refine Below.setCell ?_ ?_ _) | (with_reducible refine Below.drew ?_) | (with_reducible refine below_dn ?_ _) | (with_reducible refine Below.trans ?_ (Below.mono (by assumption) ?_)) | go_size))⟩
    simp only [results, Try.results86]; simp [*, go_sem, ↓IntWalk.iteOmega]; try (first | rfl | exact ⟨rfl, rfl⟩)

end Hk

namespace Hk
open Go Go.RowKit Go.Proofs
set_option linter.unusedSimpArgs false
set_option linter.unusedVariables false
set_option maxRecDepth 100000
theorem do_c (op : Int) (a b : Tn) (w : World) : Calls Try.prog 86 #[.int .u8 op, .agg #[.int .u64 (N a.v), .int .u64 (N a.m)], .agg #[.int .u64 (N b.v), .int .u64 (N b.m)]] w fun e w' => e = .returned (.tuple #[.agg #[.int .u64 (N ((Tn.do_ op a b).getD ⟨0, 0⟩).v), .int .u64 (N ((Tn.do_ op a b).getD ⟨0, 0⟩).m)], .bool (Tn.do_ op a b).isSome]) ∧ Below w.heap.size w w' := by
  cases ha : a.right
  · exact do_no1 op a b ha w
  cases hb : b.right
  · exact do_no2 op a b ha hb w
  by_cases n0 : op = 0
  · subst n0; exact do_add a b ha hb w
  by_cases n16 : op = 16
  · subst n16; exact do_sub a b ha hb w
  by_cases n32 : op = 32
  · subst n32; exact do_mul a b ha hb w
  by_cases n80 : op = 80
  · subst n80; exact do_and a b ha hb w
  by_cases n64 : op = 64
  · subst n64; exact do_or a b ha hb w
  by_cases n160 : op = 160
  · subst n160; exact do_xor a b ha hb w
  by_cases n96 : op = 96
  · subst n96
    cases hk : (b.m == 0#64)
    · exact do_lsh3 a b ha hb hk w
    cases hl : decide (b.v < 64#64)
    · exact do_lsh2 a b ha hb hk hl w
    exact do_lsh1 a b ha hb hk hl w
  by_cases n112 : op = 112
  · subst n112
    cases hk : (b.m == 0#64)
    · exact do_rsh3 a b ha hb hk w
    cases hl : decide (b.v < 64#64)
    · exact do_rsh2 a b ha hb hk hl w
    exact do_rsh1 a b ha hb hk hl w
  exact do_else op a b ha hb n0 n16 n32 n80 n64 n160 n96 n112 w

end Hk

namespace Hk
open Go Go.RowKit Go.Proofs
set_option linter.unusedSimpArgs false
set_option linter.unusedVariables false
set_option maxRecDepth 100000
attribute [go_sem] Tn.eta
theorem right_c' (x0 y0 : BitVec 64) (w : World) : Calls Try.prog 49 #[.agg #[.int .u64 (N x0), .int .u64 (N y0)]] w fun e w' => e = .returned (.bool (Tn.right (⟨x0, y0⟩ : Tn))) ∧ Below w.heap.size w w' := by
  exact right_c (⟨x0, y0⟩ : Tn) w

theorem has_c' (x0 y0 : BitVec 64) (x1 : BitVec 64) (w : World) : Calls Try.prog 56 #[.agg #[.int .u64 (N x0), .int .u64 (N y0)], .int .u64 (N x1)] w fun e w' => e = .returned (.bool (Tn.has (⟨x0, y0⟩ : Tn) x1)) ∧ Below w.heap.size w w' := by
  exact has_c (⟨x0, y0⟩ : Tn) x1 w

theorem within_c' (x0 y0 : BitVec 64) (x1 y1 : BitVec 64) (w : World) : Calls Try.prog 63 #[.agg #[.int .u64 (N x0), .int .u64 (N y0)], .agg #[.int .u64 (N x1), .int .u64 (N y1)]] w fun e w' => e = .returned (.bool (Tn.within (⟨x0, y0⟩ : Tn) (⟨x1, y1⟩ : Tn))) ∧ Below w.heap.size w w' := by
  exact within_c (⟨x0, y0⟩ : Tn) (⟨x1, y1⟩ : Tn) w

theorem join_c' (x0 y0 : BitVec 64) (x1 y1 : BitVec 64) (w : World) : Calls Try.prog 68 #[.agg #[.int .u64 (N x0), .int .u64 (N y0)], .agg #[.int .u64 (N x1), .int .u64 (N y1)]] w fun e w' => e = .returned (.agg #[.int .u64 (N (Tn.join (⟨x0, y0⟩ : Tn) (⟨x1, y1⟩ : Tn)).v), .int .u64 (N (Tn.join (⟨x0, y0⟩ : Tn) (⟨x1, y1⟩ : Tn)).m)]) ∧ Below w.heap.size w w' := by
  exact join_c (⟨x0, y0⟩ : Tn) (⟨x1, y1⟩ : Tn) w

theorem meet_c' (x0 y0 : BitVec 64) (x1 y1 : BitVec 64) (w : World) : Calls Try.prog 52 #[.agg #[.int .u64 (N x0), .int .u64 (N y0)], .agg #[.int .u64 (N x1), .int .u64 (N y1)]] w fun e w' => e = .returned (.tuple #[.agg #[.int .u64 (N (Tn.meet (⟨x0, y0⟩ : Tn) (⟨x1, y1⟩ : Tn)).v), .int .u64 (N (Tn.meet (⟨x0, y0⟩ : Tn) (⟨x1, y1⟩ : Tn)).m)], .bool (Tn.meetOk (⟨x0, y0⟩ : Tn) (⟨x1, y1⟩ : Tn))]) ∧ Below w.heap.size w w' := by
  exact meet_c (⟨x0, y0⟩ : Tn) (⟨x1, y1⟩ : Tn) w

theorem cut_c' (x0 y0 : BitVec 64) (x1 : Int) (w : World) : Calls Try.prog 70 #[.agg #[.int .u64 (N x0), .int .u64 (N y0)], .int .i64 x1] w fun e w' => e = .returned (.agg #[.int .u64 (N (Tn.cutI (⟨x0, y0⟩ : Tn) x1).v), .int .u64 (N (Tn.cutI (⟨x0, y0⟩ : Tn) x1).m)]) ∧ Below w.heap.size w w' := by
  exact cut_c (⟨x0, y0⟩ : Tn) x1 w

theorem do_c' (x0 : Int) (x1 y1 : BitVec 64) (x2 y2 : BitVec 64) (w : World) : Calls Try.prog 86 #[.int .u8 x0, .agg #[.int .u64 (N x1), .int .u64 (N y1)], .agg #[.int .u64 (N x2), .int .u64 (N y2)]] w fun e w' => e = .returned (.tuple #[.agg #[.int .u64 (N ((Tn.do_ x0 (⟨x1, y1⟩ : Tn) (⟨x2, y2⟩ : Tn)).getD ⟨0, 0⟩).v), .int .u64 (N ((Tn.do_ x0 (⟨x1, y1⟩ : Tn) (⟨x2, y2⟩ : Tn)).getD ⟨0, 0⟩).m)], .bool (Tn.do_ x0 (⟨x1, y1⟩ : Tn) (⟨x2, y2⟩ : Tn)).isSome]) ∧ Below w.heap.size w w' := by
  exact do_c x0 (⟨x1, y1⟩ : Tn) (⟨x2, y2⟩ : Tn) w

end Hk

