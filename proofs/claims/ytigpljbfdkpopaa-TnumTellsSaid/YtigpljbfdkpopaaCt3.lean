/- Package tnum: its multiplication, a loop over memory, is the plain one; old memory is as it was. No condition. -/
import Derived.Test.YtigpljbfdkpopaaProg
import Derived.Test.YtigpljbfdkpopaaWd
import Derived.Test.YtigpljbfdkpopaaTn
import Derived.Test.YtigpljbfdkpopaaCt1
import Derived.Deep.LoopGhost
namespace Hk
open Go Go.RowKit Go.Proofs
set_option linter.unusedSimpArgs false
set_option linter.unusedVariables false
set_option maxRecDepth 100000
theorem mul_done (a b : Tn) (j : Nat) (h : b.v >>> j ||| b.m >>> j = 0#64) : ∀ k, Tn.mulTo a b (j + k) = Tn.mulTo a b j := by
  intro k
  induction k with
  | zero => rfl
  | succ k ih =>
    have h1 := bt_congr h k
    rw [bt_or, bt_shr, bt_shr, bt_zero, Bool.or_eq_false_iff] at h1
    rw [← Nat.add_assoc]
    rw [Tn.mulTo, h1.1, h1.2]
    exact ih
theorem mul_end (a b : Tn) (j : Nat) (hj : j ≤ 64) (h : (b.v >>> j ||| b.m >>> j == 0#64) = true) : Tn.mulTo a b j = Tn.mul a b := by
  have := mul_done a b j (by simpa using h) (64 - j)
  rw [show j + (64 - j) = 64 by omega] at this
  exact this.symm
theorem mul_more (b : Tn) (j : Nat) (hj : j ≤ 64) (h : (b.v >>> j ||| b.m >>> j == 0#64) = false) : j < 64 := by
  apply Classical.byContradiction
  intro hn
  have e : j = 64 := by omega
  subst e
  have e1 : ∀ x : BitVec 64, x >>> 64 = 0#64 := fun x => bt_ext fun i hi => by rw [bt_shr, bt_ge _ _ (by omega), bt_zero]
  rw [e1, e1] at h
  simp at h
/-- What stands in memory ahead of the round j. -/
def MulAt (a b : Tn) (w : World) (j : Nat) (wr : World) : Prop :=
  wr.cell? ⟨w.heap.size, 0, none⟩ = some (.int .u64 (N (a.v <<< j))) ∧ wr.cell? ⟨w.heap.size, 1, none⟩ = some (.int .u64 (N (a.m <<< j))) ∧
  wr.cell? ⟨w.heap.size + 1, 0, none⟩ = some (.int .u64 (N (b.v >>> j))) ∧ wr.cell? ⟨w.heap.size + 1, 1, none⟩ = some (.int .u64 (N (b.m >>> j))) ∧
  wr.cell? ⟨w.heap.size + 1 + 1 + 1, 0, none⟩ = some (.int .u64 (N (Tn.mulTo a b j).v)) ∧ wr.cell? ⟨w.heap.size + 1 + 1 + 1, 1, none⟩ = some (.int .u64 (N (Tn.mulTo a b j).m)) ∧
  (wr.cell? ⟨w.heap.size + 1 + 1, 0, none⟩ = some (.int .u64 (N 0#64))) ∧ (wr.cell? ⟨w.heap.size + 1 + 1, 1, none⟩ = some (.int .u64 (N 0#64))) ∧
  (∀ o, wr.frozen? ⟨w.heap.size, o, none⟩ = false) ∧ (∀ o, wr.frozen? ⟨w.heap.size + 1, o, none⟩ = false) ∧ (∀ o, wr.frozen? ⟨w.heap.size + 1 + 1, o, none⟩ = false) ∧ (∀ o, wr.frozen? ⟨w.heap.size + 1 + 1 + 1, o, none⟩ = false) ∧
  w.heap.size + 1 + 1 + 1 < wr.heap.size ∧ Below w.heap.size w wr
set_option maxHeartbeats 1000000 in
theorem mul_c (a b : Tn) (w : World) : Calls Try.prog 31 #[.agg #[.int .u64 (N a.v), .int .u64 (N a.m)], .agg #[.int .u64 (N b.v), .int .u64 (N b.m)]] w fun e w' => e = .returned (.agg #[.int .u64 (N (Tn.mul a b).v), .int .u64 (N (Tn.mul a b).m)]) ∧ Below w.heap.size w w' := by
  go_enter Try.func31, Try.ntmps31
  go_wp2_with fail
  go_loopg [] 64 (fun g wr => ∃ j, j ≤ 64 ∧ g + j ≤ 64 ∧ 64 ≤ g + j ∧ MulAt a b w j wr)
  case atStart =>
    refine ⟨0, by omega, by omega, by omega, ?_⟩
    unfold MulAt
    refine ⟨?_, ?_, ?_, ?_, ?_, ?_, ?_, ?_, ?_, ?_, ?_, ?_, (by simp only [World.size_alloc, World.size_setCell, World.size_drew]; omega), (by repeat' (first | (with_reducible exact Below.refl _ _) | (with_reducible assumption) | (with_reducible refine Below.alloc ?_ ?_ _) | (with_reducible refine Below.setCell ?_ ?_ _) | (with_reducible refine Below.drew ?_) | (with_reducible refine Below.trans ?_ (Below.mono (by assumption) ?_)) | go_size))⟩
    all_goals first | (intro o; simp [go_sem]; done) | (simp [go_sem, Tn.mulTo]; try rfl)
  case round =>
    obtain ⟨j, hj0, hj1, hj2, c0, c1, c2, c3, c4, c5, c6, c7, f0, f1, f2, f3, hz, hb⟩ := hrel
    cases h0 : (b.v >>> j ||| b.m >>> j == 0#64)
    · have hj : j < 64 := mul_more b j hj0 h0
      have q1 := bit_and1 b.v j
      have q2 := bit_and1 b.m j
      cases hv : bt b.v j
      · cases hm : bt b.m j
        all_goals
          rw [hv] at q1
          rw [hm] at q2
          go_wp2_with (first | (go_at_call 29; (with_reducible refine (add_c ⟨_, _⟩ ⟨_, _⟩ _).mono ?_); rintro e w1 ⟨rfl, hb1⟩; obtain ⟨hc1, hf1, hz1⟩ := bcell hb1; (try simp only [World.size_alloc, World.size_setCell, World.size_drew] at hc1 hf1 hz1)))
          go_roundg (gk - 1)
          case measure => omega
          case rel =>
            refine ⟨j + 1, by omega, by omega, by omega, ?_⟩
            unfold MulAt
            refine ⟨?_, ?_, ?_, ?_, ?_, ?_, ?_, ?_, ?_, ?_, ?_, ?_, (by simp only [World.size_alloc, World.size_setCell, World.size_drew]; omega), (by repeat' (first | (with_reducible exact Below.refl _ _) | (with_reducible assumption) | (with_reducible refine Below.alloc ?_ ?_ _) | (with_reducible refine Below.setCell ?_ ?_ _) | (with_reducible refine Below.drew ?_) | (with_reducible refine Below.trans ?_ (Below.mono (by assumption) ?_)) | go_size))⟩
            any_goals (intro o; simp [*, go_sem, ↓IntWalk.iteOmega]; done)
            all_goals (simp [*, go_sem, ↓IntWalk.iteOmega, Tn.mulTo, BitVec.shiftLeft_add, BitVec.shiftRight_add, BitVec.shiftLeft_or_distrib])
      · rw [hv] at q1
        go_wp2_with (first | (go_at_call 29; (with_reducible refine (add_c ⟨_, _⟩ ⟨_, _⟩ _).mono ?_); rintro e w1 ⟨rfl, hb1⟩; obtain ⟨hc1, hf1, hz1⟩ := bcell hb1; (try simp only [World.size_alloc, World.size_setCell, World.size_drew] at hc1 hf1 hz1)))
        go_roundg (gk - 1)
        case measure => omega
        case rel =>
          refine ⟨j + 1, by omega, by omega, by omega, ?_⟩
          unfold MulAt
          refine ⟨?_, ?_, ?_, ?_, ?_, ?_, ?_, ?_, ?_, ?_, ?_, ?_, (by simp only [World.size_alloc, World.size_setCell, World.size_drew]; omega), (by repeat' (first | (with_reducible exact Below.refl _ _) | (with_reducible assumption) | (with_reducible refine Below.alloc ?_ ?_ _) | (with_reducible refine Below.setCell ?_ ?_ _) | (with_reducible refine Below.drew ?_) | (with_reducible refine Below.trans ?_ (Below.mono (by assumption) ?_)) | go_size))⟩
          any_goals (intro o; simp [*, go_sem, ↓IntWalk.iteOmega]; done)
          all_goals (simp [*, go_sem, ↓IntWalk.iteOmega, Tn.mulTo, BitVec.shiftLeft_add, BitVec.shiftRight_add, BitVec.shiftLeft_or_distrib])
    · have E := mul_end a b j hj0 h0
      have HE := Lib.hid E
      clear E
      go_wp2
      refine bodyPost_ret (v := .agg #[.int .u64 (N (Tn.mul a b).v), .int .u64 (N (Tn.mul a b).m)]) ?_ rfl ⟨rfl, (by repeat' (first | (with_reducible exact Below.refl _ _) | (with_reducible assumption) | (with_reducible refine Below.alloc ?_ ?_ _) | (with_reducible refine Below.setCell ?_ ?_ _) | (with_reducible refine Below.drew ?_) | (with_reducible refine Below.trans ?_ (Below.mono (by assumption) ?_)) | go_size))⟩
      simp only [results, Try.results31]; rw [← HE.out]; simp [*, go_sem, ↓IntWalk.iteOmega]

end Hk
