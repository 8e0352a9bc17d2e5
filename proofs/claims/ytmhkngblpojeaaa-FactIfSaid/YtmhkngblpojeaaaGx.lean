/- The reference of facts: ranged; old memory is as it was. No condition. The reference of facts: round; old memory is as it was. No condition but those in each statement. The reference of facts: Settle; old memory is as it was. No condition but those in each statement. The reference of facts: Right, settled, Of, Any, Known, Has, Within; old memory is as it was. No condition but those in each statement. -/
import Derived.Test.YtmhkngblpojeaaaProg
import Derived.Test.YtmhkngblpojeaaaGp
import Derived.Test.YtmhkngblpojeaaaGf
import Derived.Test.YtmhkngblpojeaaaGr
import Derived.Test.YtmhkngblpojeaaaGs
import Derived.Test.YtmhkngblpojeaaaGl
import Derived.Deep.RegionHeld3
namespace Hk
open Go Go.RowKit Go.Proofs
set_option linter.unusedSimpArgs false
set_option linter.unusedVariables false
set_option maxRecDepth 100000
attribute [go_sem] Tn.eta
/-- what stands in memory ahead of a round -/
def RngAt (s : Sp) (x y : BitVec 64) (w wr : World) : Prop := wr.cell? ⟨w.heap.size, 0, none⟩ = some (.int .u64 (N s.lo)) ∧ wr.cell? ⟨w.heap.size, 1, none⟩ = some (.int .u64 (N s.hi)) ∧ wr.cell? ⟨w.heap.size + 1, 0, none⟩ = some (.int .u64 (N 0#64)) ∧ wr.cell? ⟨w.heap.size + 1, 1, none⟩ = some (.int .u64 (N 0#64)) ∧ wr.cell? ⟨w.heap.size + 1 + 1, 0, none⟩ = some (.int .u64 (N x)) ∧ wr.cell? ⟨w.heap.size + 1 + 1, 1, none⟩ = some (.int .u64 (N y)) ∧ (∀ o, wr.frozen? ⟨w.heap.size + 1, o, none⟩ = false) ∧ (∀ o, wr.frozen? ⟨w.heap.size + 1 + 1, o, none⟩ = false) ∧ w.heap.size + 1 + 1 < wr.heap.size ∧ Below w.heap.size w wr
def RngI (i : Nat) (v : Value) : Prop := (i = 0 ∧ v = .int .i64 (-1)) ∨ (∃ m : Nat, i = m + 1 ∧ v = .int .i64 m)

set_option maxHeartbeats 4000000 in
theorem rranged_c (s : Sp) (w : World) : Calls Try.prog 80 #[.agg #[.int .u64 (N s.lo), .int .u64 (N s.hi)]] w fun e w' => e = .returned (.agg #[.int .u64 (N (ranged s).v), .int .u64 (N (ranged s).m)]) ∧ Below w.heap.size w w' := by
  have E0 := Lib.hid (Fa.start0 s)
  go_enter Try.func80, Try.ntmps80
  go_wp2
  go_loopw [4, 5] (fun u v wr => ∃ i : Nat, i ≤ 64 ∧ RngI i v ∧ u = .bool (decide (i < Fa.rL s)) ∧ RngAt s (Fa.rV s >>> i) (Fa.rM s >>> i) w wr) (fun _ v _ => (intOf v + 1).toNat)
  case atStart =>
    obtain ⟨e1, e2, e3⟩ := E0.out
    refine ⟨64, by omega, .inr ⟨63, rfl, rfl⟩, by rw [e3], ?_⟩
    rw [e1, e2]
    unfold RngAt
    refine ⟨?_, ?_, ?_, ?_, ?_, ?_, ?_, ?_, (by (try simp only [World.size_alloc, World.size_setCell, World.size_drew]); omega), (by repeat' (first | (with_reducible exact Below.refl _ _) | (with_reducible assumption) | (with_reducible refine Below.alloc ?_ ?_ _) | (with_reducible refine Below.setCell ?_ ?_ _) | (with_reducible refine Below.drew ?_) | (with_reducible refine below_dn ?_ _) | (with_reducible refine Below.trans ?_ (Below.mono (by assumption) ?_)) | go_size))⟩
    all_goals first | (intro o; simp [go_sem]; done) | (simp [go_sem]; try rfl)
  case round =>
    obtain ⟨i, hi, hv, rfl, c0, c1, c2, c3, c4, c5, f0, f1, hz, hb⟩ := hrel
    rcases hv with ⟨rfl, rfl⟩ | ⟨m, rfl, rfl⟩
    · rw [Fa.end0] at c4 c5
      clear E0 hi
      go_wp2
      refine bodyPost_ret (v := .agg #[.int .u64 (N (ranged s).v), .int .u64 (N (ranged s).m)]) ?_ rfl ⟨rfl, (by repeat' (first | (with_reducible exact Below.refl _ _) | (with_reducible assumption) | (with_reducible refine Below.alloc ?_ ?_ _) | (with_reducible refine Below.setCell ?_ ?_ _) | (with_reducible refine Below.drew ?_) | (with_reducible refine below_dn ?_ _) | (with_reducible refine Below.trans ?_ (Below.mono (by assumption) ?_)) | go_size))⟩
      simp only [results, Try.results80]; simp [*, go_sem, ↓IntWalk.iteOmega, Fa.ranged_r]; try (first | rfl | exact ⟨rfl, rfl⟩)
    · have hm : m < 64 := by omega
      have K1 := Lib.hid (Fa.unl s m hm)
      have K2 := Lib.hid (Fa.stepV s m hm)
      have K3 := Lib.hid (Fa.stepM s m hm)
      have s1 := Fa.shr_mod s.lo m
      have s2 := Fa.shr_mod s.hi m
      clear E0
      cases h1 : bt s.lo m <;> cases h2 : bt s.hi m <;> cases h3 : decide (m + 1 < Fa.rL s)
      all_goals
        rw [h1] at s1
        rw [h2] at s2
        simp only [Bool.false_eq_true, if_false, if_true] at s1 s2
        go_wp2
        go_roundw
        case rel =>
          have k1 := K1.out
          have k2 := K2.out
          have k3 := K3.out
          rw [h1, h2, h3] at k1
          simp only [Bool.or_false, Bool.or_true, Bool.false_or, Bool.true_or, bne_self_eq_false, Bool.bne_true, Bool.bne_false, Bool.not_true, Bool.not_false] at k1
          rw [h1, k1] at k2
          rw [k1] at k3
          simp only [Bool.false_and, Bool.true_and, Bool.not_true, Bool.not_false, Bool.false_eq_true, if_false, if_true, Bool.and_self] at k2 k3
          refine ⟨m, by omega, ?_, by rw [k1], ?_⟩
          · rcases m with _ | m
            · exact .inl ⟨rfl, by go_num⟩
            · exact .inr ⟨m, rfl, by go_num⟩
          · rw [k2, k3]
            unfold RngAt
            refine ⟨?_, ?_, ?_, ?_, ?_, ?_, ?_, ?_, (by (try simp only [World.size_alloc, World.size_setCell, World.size_drew]); omega), (by repeat' (first | (with_reducible exact Below.refl _ _) | (with_reducible assumption) | (with_reducible refine Below.alloc ?_ ?_ _) | (with_reducible refine Below.setCell ?_ ?_ _) | (with_reducible refine Below.drew ?_) | (with_reducible refine below_dn ?_ _) | (with_reducible refine Below.trans ?_ (Below.mono (by assumption) ?_)) | go_size))⟩
            any_goals (intro o; simp [*, go_sem, ↓IntWalk.iteOmega]; done)
            all_goals first | (simp [*, go_sem, ↓IntWalk.iteOmega]; done) | (simp only [BitVec.add_zero]; simp [*, go_sem, ↓IntWalk.iteOmega]; done) | (rw [World.cell?_setCell_same' _ _ _ (by simp [*, go_sem, ↓IntWalk.iteOmega])])
        case measure => simp [intOf]; try omega

theorem rranged_c' (x0 y0 : BitVec 64) (w : World) : Calls Try.prog 80 #[.agg #[.int .u64 (N x0), .int .u64 (N y0)]] w fun e w' => e = .returned (.agg #[.int .u64 (N (ranged (⟨x0, y0⟩ : Sp)).v), .int .u64 (N (ranged (⟨x0, y0⟩ : Sp)).m)]) ∧ Below w.heap.size w w' := by
  exact rranged_c (⟨x0, y0⟩ : Sp) w

end Hk

namespace Hk
open Go Go.RowKit Go.Proofs
set_option linter.unusedSimpArgs false
set_option linter.unusedVariables false
set_option maxRecDepth 100000
attribute [go_sem] Tn.eta
def RndC (f z : Fa) (s : Sp) (w wM : World) (w' : World) : Prop := w'.cell? ⟨w.heap.size, 0, none⟩ = some (.int .u64 (N f.t.v)) ∧ w'.cell? ⟨w.heap.size, 1, none⟩ = some (.int .u64 (N f.t.m)) ∧ w'.cell? ⟨w.heap.size, 2, none⟩ = some (.int .u64 (N f.s.lo)) ∧ w'.cell? ⟨w.heap.size, 3, none⟩ = some (.int .u64 (N f.s.hi)) ∧ w'.cell? ⟨w.heap.size + 1, 0, none⟩ = some (.int .u64 (N z.t.v)) ∧ w'.cell? ⟨w.heap.size + 1, 1, none⟩ = some (.int .u64 (N z.t.m)) ∧ w'.cell? ⟨w.heap.size + 1, 2, none⟩ = some (.int .u64 (N z.s.lo)) ∧ w'.cell? ⟨w.heap.size + 1, 3, none⟩ = some (.int .u64 (N z.s.hi)) ∧ w'.cell? ⟨wM.heap.size, 0, none⟩ = some (.int .u64 (N s.lo)) ∧ w'.cell? ⟨wM.heap.size, 1, none⟩ = some (.int .u64 (N s.hi)) ∧ (∀ i, w'.frozen? ⟨w.heap.size + 1, i, none⟩ = false) ∧ Below w.heap.size w w'
theorem RndC_keep {f z : Fa} {s : Sp} {w wM : World} (w' w1 : World) (h : RndC f z s w wM w') (hb : Below w'.heap.size w' w1) : RndC f z s w wM w1 := by
  obtain ⟨k0, k1, k2, k3, k4, k5, k6, k7, k8, k9, k10, k11⟩ := h
  exact ⟨cell_keep hb k0, cell_keep hb k1, cell_keep hb k2, cell_keep hb k3, cell_keep hb k4, cell_keep hb k5, cell_keep hb k6, cell_keep hb k7, cell_keep hb k8, cell_keep hb k9, frozen_keep hb k4 k10, below_next k11 hb⟩

set_option maxHeartbeats 1000000 in
theorem round_n1 (f : Fa) (h1 : Sp.meetOk f.s ⟨f.t.v, f.t.v ||| f.t.m⟩ = false) (w : World) : Calls Try.prog 40 #[.agg #[.int .u64 (N f.t.v), .int .u64 (N f.t.m), .int .u64 (N f.s.lo), .int .u64 (N f.s.hi)]] w fun e w' => e = .returned (.tuple #[.agg #[.int .u64 (N ((Fa.round f).getD Fa.zero).t.v), .int .u64 (N ((Fa.round f).getD Fa.zero).t.m), .int .u64 (N ((Fa.round f).getD Fa.zero).s.lo), .int .u64 (N ((Fa.round f).getD Fa.zero).s.hi)], .bool (Fa.round f).isSome]) ∧ Below w.heap.size w w' := by
  rw [Fa.round_n1 h1]
  go_enter Try.func40, Try.ntmps40
  go_wp2_with (first | (go_at_call 79; (with_reducible refine (rsmeet_c' _ _ _ _ _).mono ?_); rintro e w1 ⟨rfl, hb1⟩; obtain ⟨hc1, hf1, hz1⟩ := bcell hb1; (try simp only [World.size_alloc, World.size_setCell, World.size_drew] at hc1 hf1 hz1)))
  refine bodyPost_ret ?_ rfl ⟨rfl, (by repeat' (first | (with_reducible exact Below.refl _ _) | (with_reducible assumption) | (with_reducible refine Below.alloc ?_ ?_ _) | (with_reducible refine Below.setCell ?_ ?_ _) | (with_reducible refine Below.drew ?_) | (with_reducible refine below_dn ?_ _) | (with_reducible refine Below.trans ?_ (Below.mono (by assumption) ?_)) | go_size))⟩
  simp only [results, Try.results40]; simp [*, go_sem, ↓IntWalk.iteOmega]; try (first | rfl | exact ⟨rfl, rfl⟩)

set_option maxHeartbeats 2000000 in
theorem round_n2 (f : Fa) (s : Sp) (t : Tn) (hs : Sp.meet f.s ⟨f.t.v, f.t.v ||| f.t.m⟩ = s) (ht : Tn.meet f.t (ranged s) = t) (h1 : Sp.meetOk f.s ⟨f.t.v, f.t.v ||| f.t.m⟩ = true) (h2 : Tn.meetOk f.t (ranged s) = false) (w : World) : Calls Try.prog 40 #[.agg #[.int .u64 (N f.t.v), .int .u64 (N f.t.m), .int .u64 (N f.s.lo), .int .u64 (N f.s.hi)]] w fun e w' => e = .returned (.tuple #[.agg #[.int .u64 (N ((Fa.round f).getD Fa.zero).t.v), .int .u64 (N ((Fa.round f).getD Fa.zero).t.m), .int .u64 (N ((Fa.round f).getD Fa.zero).s.lo), .int .u64 (N ((Fa.round f).getD Fa.zero).s.hi)], .bool (Fa.round f).isSome]) ∧ Below w.heap.size w w' := by
  rw [Fa.round_n2 hs h1 h2]
  go_enter Try.func40, Try.ntmps40
  go_wp2_with fail
  refine (rsmeet_c' _ _ _ _ _).mono ?_
  rintro e wM ⟨rfl, hbwM⟩
  obtain ⟨hcwM, hfwM, hzwM⟩ := bcell hbwM
  (try simp only [World.size_alloc, World.size_setCell, World.size_drew] at hcwM hfwM hzwM)
  go_wp2_with fail
  have HC : RndC f Fa.zero s w wM (wM.alloc (.cells #[.int .u64 (N s.lo), .int .u64 (N s.hi)] 27)) := by
    refine ⟨?_, ?_, ?_, ?_, ?_, ?_, ?_, ?_, ?_, ?_, ?_, (by repeat' (first | (with_reducible exact Below.refl _ _) | (with_reducible assumption) | (with_reducible refine Below.alloc ?_ ?_ _) | (with_reducible refine Below.setCell ?_ ?_ _) | (with_reducible refine Below.drew ?_) | (with_reducible refine below_dn ?_ _) | (with_reducible refine Below.trans ?_ (Below.mono (by assumption) ?_)) | go_size))⟩
    all_goals first | (intro i; simp [*, go_sem, ↓IntWalk.iteOmega]; done) | (simp [*, go_sem, ↓IntWalk.iteOmega]; done)
  go_region_held3 (fun w' => w'.cell? ⟨w.heap.size, 0, none⟩ = some (.int .u64 (N f.t.v)) ∧ w'.cell? ⟨w.heap.size, 1, none⟩ = some (.int .u64 (N f.t.m)) ∧ w'.cell? ⟨w.heap.size, 2, none⟩ = some (.int .u64 (N f.s.lo)) ∧ w'.cell? ⟨w.heap.size, 3, none⟩ = some (.int .u64 (N f.s.hi)) ∧ w'.cell? ⟨w.heap.size + 1, 0, none⟩ = some (.int .u64 (N Fa.zero.t.v)) ∧ w'.cell? ⟨w.heap.size + 1, 1, none⟩ = some (.int .u64 (N Fa.zero.t.m)) ∧ w'.cell? ⟨w.heap.size + 1, 2, none⟩ = some (.int .u64 (N Fa.zero.s.lo)) ∧ w'.cell? ⟨w.heap.size + 1, 3, none⟩ = some (.int .u64 (N Fa.zero.s.hi)) ∧ w'.cell? ⟨wM.heap.size, 0, none⟩ = some (.int .u64 (N s.lo)) ∧ w'.cell? ⟨wM.heap.size, 1, none⟩ = some (.int .u64 (N s.hi)) ∧ (∀ i, w'.frozen? ⟨w.heap.size + 1, i, none⟩ = false) ∧ Below w.heap.size w w') (((refine RndC_keep  _ _ HC ?_); (repeat' (first | (with_reducible exact Below.refl _ _) | (with_reducible assumption) | (with_reducible refine Below.alloc ?_ ?_ _) | (with_reducible refine Below.setCell ?_ ?_ _) | (with_reducible refine Below.drew ?_) | (with_reducible refine below_dn ?_ _) | (with_reducible refine Below.trans ?_ (Below.mono (by assumption) ?_)) | go_size)))) ((first | (go_at_call 80; (with_reducible refine (rranged_c' _ _ _).mono ?_); rintro e w1 ⟨rfl, hb1⟩; obtain ⟨hc1, hf1, hz1⟩ := bcell hb1; (try simp only [World.size_alloc, World.size_setCell, World.size_drew] at hc1 hf1 hz1)) | (go_at_call 74; (with_reducible refine (r_meet_c' _ _ _ _ _).mono ?_); rintro e w1 ⟨rfl, hb1⟩; obtain ⟨hc1, hf1, hz1⟩ := bcell hb1; (try simp only [World.size_alloc, World.size_setCell, World.size_drew] at hc1 hf1 hz1))))
  all_goals
    go_wp2
    refine bodyPost_ret ?_ rfl ⟨rfl, (by repeat' (first | (with_reducible exact Below.refl _ _) | (with_reducible assumption) | (with_reducible refine Below.alloc ?_ ?_ _) | (with_reducible refine Below.setCell ?_ ?_ _) | (with_reducible refine Below.drew ?_) | (with_reducible refine below_dn ?_ _) | (with_reducible refine Below.trans ?_ (Below.mono (by assumption) ?_)) | go_size))⟩
    simp only [results, Try.results40]; simp [*, go_sem, ↓IntWalk.iteOmega]; try (first | rfl | exact ⟨rfl, rfl⟩)

set_option maxHeartbeats 2000000 in
theorem round_s (f : Fa) (s : Sp) (t : Tn) (hs : Sp.meet f.s ⟨f.t.v, f.t.v ||| f.t.m⟩ = s) (ht : Tn.meet f.t (ranged s) = t) (h1 : Sp.meetOk f.s ⟨f.t.v, f.t.v ||| f.t.m⟩ = true) (h2 : Tn.meetOk f.t (ranged s) = true) (w : World) : Calls Try.prog 40 #[.agg #[.int .u64 (N f.t.v), .int .u64 (N f.t.m), .int .u64 (N f.s.lo), .int .u64 (N f.s.hi)]] w fun e w' => e = .returned (.tuple #[.agg #[.int .u64 (N ((Fa.round f).getD Fa.zero).t.v), .int .u64 (N ((Fa.round f).getD Fa.zero).t.m), .int .u64 (N ((Fa.round f).getD Fa.zero).s.lo), .int .u64 (N ((Fa.round f).getD Fa.zero).s.hi)], .bool (Fa.round f).isSome]) ∧ Below w.heap.size w w' := by
  rw [Fa.round_s hs ht h1 h2]
  go_enter Try.func40, Try.ntmps40
  go_wp2_with fail
  refine (rsmeet_c' _ _ _ _ _).mono ?_
  rintro e wM ⟨rfl, hbwM⟩
  obtain ⟨hcwM, hfwM, hzwM⟩ := bcell hbwM
  (try simp only [World.size_alloc, World.size_setCell, World.size_drew] at hcwM hfwM hzwM)
  go_wp2_with fail
  have HC : RndC f Fa.zero s w wM (wM.alloc (.cells #[.int .u64 (N s.lo), .int .u64 (N s.hi)] 27)) := by
    refine ⟨?_, ?_, ?_, ?_, ?_, ?_, ?_, ?_, ?_, ?_, ?_, (by repeat' (first | (with_reducible exact Below.refl _ _) | (with_reducible assumption) | (with_reducible refine Below.alloc ?_ ?_ _) | (with_reducible refine Below.setCell ?_ ?_ _) | (with_reducible refine Below.drew ?_) | (with_reducible refine below_dn ?_ _) | (with_reducible refine Below.trans ?_ (Below.mono (by assumption) ?_)) | go_size))⟩
    all_goals first | (intro i; simp [*, go_sem, ↓IntWalk.iteOmega]; done) | (simp [*, go_sem, ↓IntWalk.iteOmega]; done)
  go_region_held3 (fun w' => w'.cell? ⟨w.heap.size, 0, none⟩ = some (.int .u64 (N f.t.v)) ∧ w'.cell? ⟨w.heap.size, 1, none⟩ = some (.int .u64 (N f.t.m)) ∧ w'.cell? ⟨w.heap.size, 2, none⟩ = some (.int .u64 (N f.s.lo)) ∧ w'.cell? ⟨w.heap.size, 3, none⟩ = some (.int .u64 (N f.s.hi)) ∧ w'.cell? ⟨w.heap.size + 1, 0, none⟩ = some (.int .u64 (N Fa.zero.t.v)) ∧ w'.cell? ⟨w.heap.size + 1, 1, none⟩ = some (.int .u64 (N Fa.zero.t.m)) ∧ w'.cell? ⟨w.heap.size + 1, 2, none⟩ = some (.int .u64 (N Fa.zero.s.lo)) ∧ w'.cell? ⟨w.heap.size + 1, 3, none⟩ = some (.int .u64 (N Fa.zero.s.hi)) ∧ w'.cell? ⟨wM.heap.size, 0, none⟩ = some (.int .u64 (N s.lo)) ∧ w'.cell? ⟨wM.heap.size, 1, none⟩ = some (.int .u64 (N s.hi)) ∧ (∀ i, w'.frozen? ⟨w.heap.size + 1, i, none⟩ = false) ∧ Below w.heap.size w w') (((refine RndC_keep  _ _ HC ?_); (repeat' (first | (with_reducible exact Below.refl _ _) | (with_reducible assumption) | (with_reducible refine Below.alloc ?_ ?_ _) | (with_reducible refine Below.setCell ?_ ?_ _) | (with_reducible refine Below.drew ?_) | (with_reducible refine below_dn ?_ _) | (with_reducible refine Below.trans ?_ (Below.mono (by assumption) ?_)) | go_size)))) ((first | (go_at_call 80; (with_reducible refine (rranged_c' _ _ _).mono ?_); rintro e w1 ⟨rfl, hb1⟩; obtain ⟨hc1, hf1, hz1⟩ := bcell hb1; (try simp only [World.size_alloc, World.size_setCell, World.size_drew] at hc1 hf1 hz1)) | (go_at_call 74; (with_reducible refine (r_meet_c' _ _ _ _ _).mono ?_); rintro e w1 ⟨rfl, hb1⟩; obtain ⟨hc1, hf1, hz1⟩ := bcell hb1; (try simp only [World.size_alloc, World.size_setCell, World.size_drew] at hc1 hf1 hz1))))
  all_goals
    go_wp2
    refine bodyPost_ret ?_ rfl ⟨rfl, (by repeat' (first | (with_reducible exact Below.refl _ _) | (with_reducible assumption) | (with_reducible refine Below.alloc ?_ ?_ _) | (with_reducible refine Below.setCell ?_ ?_ _) | (with_reducible refine Below.drew ?_) | (with_reducible refine below_dn ?_ _) | (with_reducible refine Below.trans ?_ (Below.mono (by assumption) ?_)) | go_size))⟩
    simp only [results, Try.results40]; simp [*, go_sem, ↓IntWalk.iteOmega]; try (first | rfl | exact ⟨rfl, rfl⟩)

theorem round_c (f : Fa) (w : World) : Calls Try.prog 40 #[.agg #[.int .u64 (N f.t.v), .int .u64 (N f.t.m), .int .u64 (N f.s.lo), .int .u64 (N f.s.hi)]] w fun e w' => e = .returned (.tuple #[.agg #[.int .u64 (N ((Fa.round f).getD Fa.zero).t.v), .int .u64 (N ((Fa.round f).getD Fa.zero).t.m), .int .u64 (N ((Fa.round f).getD Fa.zero).s.lo), .int .u64 (N ((Fa.round f).getD Fa.zero).s.hi)], .bool (Fa.round f).isSome]) ∧ Below w.heap.size w w' := by
  cases h1 : Sp.meetOk f.s ⟨f.t.v, f.t.v ||| f.t.m⟩
  · exact round_n1 f h1 w
  · cases h2 : Tn.meetOk f.t (ranged (Sp.meet f.s ⟨f.t.v, f.t.v ||| f.t.m⟩))
    · exact round_n2 f _ _ rfl rfl h1 h2 w
    · exact round_s f _ _ rfl rfl h1 h2 w

theorem round_c' (x0 y0 z0 u0 : BitVec 64) (w : World) : Calls Try.prog 40 #[.agg #[.int .u64 (N x0), .int .u64 (N y0), .int .u64 (N z0), .int .u64 (N u0)]] w fun e w' => e = .returned (.tuple #[.agg #[.int .u64 (N ((Fa.round (⟨⟨x0, y0⟩, ⟨z0, u0⟩⟩ : Fa)).getD Fa.zero).t.v), .int .u64 (N ((Fa.round (⟨⟨x0, y0⟩, ⟨z0, u0⟩⟩ : Fa)).getD Fa.zero).t.m), .int .u64 (N ((Fa.round (⟨⟨x0, y0⟩, ⟨z0, u0⟩⟩ : Fa)).getD Fa.zero).s.lo), .int .u64 (N ((Fa.round (⟨⟨x0, y0⟩, ⟨z0, u0⟩⟩ : Fa)).getD Fa.zero).s.hi)], .bool (Fa.round (⟨⟨x0, y0⟩, ⟨z0, u0⟩⟩ : Fa)).isSome]) ∧ Below w.heap.size w w' := by
  exact round_c (⟨⟨x0, y0⟩, ⟨z0, u0⟩⟩ : Fa) w

end Hk

namespace Hk
open Go Go.RowKit Go.Proofs
set_option linter.unusedSimpArgs false
set_option linter.unusedVariables false
set_option maxRecDepth 100000
attribute [go_sem] Tn.eta
theorem rsettle_no1 (f : Fa) (h1 : f.t.right = false) (w : World) : Calls Try.prog 13 #[.agg #[.int .u64 (N f.t.v), .int .u64 (N f.t.m), .int .u64 (N f.s.lo), .int .u64 (N f.s.hi)]] w fun e w' => e = .returned (.tuple #[.agg #[.int .u64 (N ((Fa.settle f).getD Fa.zero).t.v), .int .u64 (N ((Fa.settle f).getD Fa.zero).t.m), .int .u64 (N ((Fa.settle f).getD Fa.zero).s.lo), .int .u64 (N ((Fa.settle f).getD Fa.zero).s.hi)], .bool (Fa.settle f).isSome]) ∧ Below w.heap.size w w' := by
  rw [Fa.settle_no1 h1]
  go_enter Try.func13, Try.ntmps13
  go_wp2_with (first | (go_at_call 38; (with_reducible refine (r_right_c' _ _ _).mono ?_); rintro e w1 ⟨rfl, hb1⟩; obtain ⟨hc1, hf1, hz1⟩ := bcell hb1; (try simp only [World.size_alloc, World.size_setCell, World.size_drew] at hc1 hf1 hz1)) | (go_at_call 39; (with_reducible refine (rsright_c' _ _ _).mono ?_); rintro e w1 ⟨rfl, hb1⟩; obtain ⟨hc1, hf1, hz1⟩ := bcell hb1; (try simp only [World.size_alloc, World.size_setCell, World.size_drew] at hc1 hf1 hz1)))
  refine bodyPost_ret ?_ rfl ⟨rfl, (by repeat' (first | (with_reducible exact Below.refl _ _) | (with_reducible assumption) | (with_reducible refine Below.alloc ?_ ?_ _) | (with_reducible refine Below.setCell ?_ ?_ _) | (with_reducible refine Below.drew ?_) | (with_reducible refine below_dn ?_ _) | (with_reducible refine Below.trans ?_ (Below.mono (by assumption) ?_)) | go_size))⟩
  simp only [results, Try.results13]; simp [*, go_sem, ↓IntWalk.iteOmega, Fa.zero]; try (first | rfl | exact ⟨rfl, rfl⟩)

theorem rsettle_no2 (f : Fa) (h1 : f.t.right = true) (h2 : f.s.right = false) (w : World) : Calls Try.prog 13 #[.agg #[.int .u64 (N f.t.v), .int .u64 (N f.t.m), .int .u64 (N f.s.lo), .int .u64 (N f.s.hi)]] w fun e w' => e = .returned (.tuple #[.agg #[.int .u64 (N ((Fa.settle f).getD Fa.zero).t.v), .int .u64 (N ((Fa.settle f).getD Fa.zero).t.m), .int .u64 (N ((Fa.settle f).getD Fa.zero).s.lo), .int .u64 (N ((Fa.settle f).getD Fa.zero).s.hi)], .bool (Fa.settle f).isSome]) ∧ Below w.heap.size w w' := by
  rw [Fa.settle_no2 h1 h2]
  go_enter Try.func13, Try.ntmps13
  go_wp2_with (first | (go_at_call 38; (with_reducible refine (r_right_c' _ _ _).mono ?_); rintro e w1 ⟨rfl, hb1⟩; obtain ⟨hc1, hf1, hz1⟩ := bcell hb1; (try simp only [World.size_alloc, World.size_setCell, World.size_drew] at hc1 hf1 hz1)) | (go_at_call 39; (with_reducible refine (rsright_c' _ _ _).mono ?_); rintro e w1 ⟨rfl, hb1⟩; obtain ⟨hc1, hf1, hz1⟩ := bcell hb1; (try simp only [World.size_alloc, World.size_setCell, World.size_drew] at hc1 hf1 hz1)))
  refine bodyPost_ret ?_ rfl ⟨rfl, (by repeat' (first | (with_reducible exact Below.refl _ _) | (with_reducible assumption) | (with_reducible refine Below.alloc ?_ ?_ _) | (with_reducible refine Below.setCell ?_ ?_ _) | (with_reducible refine Below.drew ?_) | (with_reducible refine below_dn ?_ _) | (with_reducible refine Below.trans ?_ (Below.mono (by assumption) ?_)) | go_size))⟩
  simp only [results, Try.results13]; simp [*, go_sem, ↓IntWalk.iteOmega, Fa.zero]; try (first | rfl | exact ⟨rfl, rfl⟩)

/-- what stands in memory ahead of a round -/
def RSetAt (g : Fa) (w wr : World) : Prop := wr.cell? ⟨w.heap.size, 0, none⟩ = some (.int .u64 (N g.t.v)) ∧ wr.cell? ⟨w.heap.size, 1, none⟩ = some (.int .u64 (N g.t.m)) ∧ wr.cell? ⟨w.heap.size, 2, none⟩ = some (.int .u64 (N g.s.lo)) ∧ wr.cell? ⟨w.heap.size, 3, none⟩ = some (.int .u64 (N g.s.hi)) ∧ wr.cell? ⟨w.heap.size + 1, 0, none⟩ = some (.int .u64 (N Fa.zero.t.v)) ∧ wr.cell? ⟨w.heap.size + 1, 1, none⟩ = some (.int .u64 (N Fa.zero.t.m)) ∧ wr.cell? ⟨w.heap.size + 1, 2, none⟩ = some (.int .u64 (N Fa.zero.s.lo)) ∧ wr.cell? ⟨w.heap.size + 1, 3, none⟩ = some (.int .u64 (N Fa.zero.s.hi)) ∧ (∀ o, wr.frozen? ⟨w.heap.size, o, none⟩ = false) ∧ (∀ o, wr.frozen? ⟨w.heap.size + 1, o, none⟩ = false) ∧ w.heap.size + 1 < wr.heap.size ∧ Below w.heap.size w wr

set_option maxHeartbeats 4000000 in
theorem rsettle_yes (f : Fa) (h1 : f.t.right = true) (h2 : f.s.right = true) (w : World) : Calls Try.prog 13 #[.agg #[.int .u64 (N f.t.v), .int .u64 (N f.t.m), .int .u64 (N f.s.lo), .int .u64 (N f.s.hi)]] w fun e w' => e = .returned (.tuple #[.agg #[.int .u64 (N ((Fa.settle f).getD Fa.zero).t.v), .int .u64 (N ((Fa.settle f).getD Fa.zero).t.m), .int .u64 (N ((Fa.settle f).getD Fa.zero).s.lo), .int .u64 (N ((Fa.settle f).getD Fa.zero).s.hi)], .bool (Fa.settle f).isSome]) ∧ Below w.heap.size w w' := by
  have P0 := Lib.hid (Fa.ph_start h1 h2)
  generalize hR : Fa.settle f = R at P0
  have HR0 := Lib.hid hR
  clear hR
  go_enter Try.func13, Try.ntmps13
  go_wp2_with (first | (go_at_call 38; (with_reducible refine (r_right_c' _ _ _).mono ?_); rintro e w1 ⟨rfl, hb1⟩; obtain ⟨hc1, hf1, hz1⟩ := bcell hb1; (try simp only [World.size_alloc, World.size_setCell, World.size_drew] at hc1 hf1 hz1)) | (go_at_call 39; (with_reducible refine (rsright_c' _ _ _).mono ?_); rintro e w1 ⟨rfl, hb1⟩; obtain ⟨hc1, hf1, hz1⟩ := bcell hb1; (try simp only [World.size_alloc, World.size_setCell, World.size_drew] at hc1 hf1 hz1)))
  go_loopw [4] (fun v wr => ∃ (i : Nat) (g : Fa), i ≤ 66 ∧ v = .int .i64 i ∧ Hid (Fa.Ph R i g) ∧ RSetAt g w wr) (fun v _ => 80 - (intOf v).toNat)
  case atStart =>
    refine ⟨0, f, by omega, rfl, P0, ?_⟩
    unfold RSetAt
    refine ⟨?_, ?_, ?_, ?_, ?_, ?_, ?_, ?_, ?_, ?_, (by (try simp only [World.size_alloc, World.size_setCell, World.size_drew]); omega), (by repeat' (first | (with_reducible exact Below.refl _ _) | (with_reducible assumption) | (with_reducible refine Below.alloc ?_ ?_ _) | (with_reducible refine Below.setCell ?_ ?_ _) | (with_reducible refine Below.drew ?_) | (with_reducible refine below_dn ?_ _) | (with_reducible refine Below.trans ?_ (Below.mono (by assumption) ?_)) | go_size))⟩
    all_goals first | (intro o; simp [*, go_sem, ↓IntWalk.iteOmega]; done) | (simp [*, go_sem, ↓IntWalk.iteOmega, Fa.zero]; try rfl)
  case round =>
    obtain ⟨i, g, hi, rfl, HP, c0, c1, c2, c3, c4, c5, c6, c7, f0, f1, hz, hb⟩ := hrel
    clear h1 h2 P0 HR0
    rcases hr : Fa.round g with _ | g'
    · have HR := Lib.hid (Fa.ph_none HP.out hr)
      clear HP
      go_wp2_with (first | (go_at_call 40; (with_reducible refine (round_c' _ _ _ _ _).mono ?_); rintro e w1 ⟨rfl, hb1⟩; obtain ⟨hc1, hf1, hz1⟩ := bcell hb1; (try simp only [World.size_alloc, World.size_setCell, World.size_drew] at hc1 hf1 hz1)))
      refine bodyPost_ret ?_ rfl ⟨rfl, (by repeat' (first | (with_reducible exact Below.refl _ _) | (with_reducible assumption) | (with_reducible refine Below.alloc ?_ ?_ _) | (with_reducible refine Below.setCell ?_ ?_ _) | (with_reducible refine Below.drew ?_) | (with_reducible refine below_dn ?_ _) | (with_reducible refine Below.trans ?_ (Below.mono (by assumption) ?_)) | go_size))⟩
      simp only [results, Try.results13]; rw [HR.out]; simp [*, go_sem, ↓IntWalk.iteOmega, Fa.zero]; try (first | rfl | exact ⟨rfl, rfl⟩)
    · by_cases hn : g' = g
      · subst hn
        have HR := Lib.hid (Fa.ph_same HP.out hr)
        clear HP
        go_wp2_with (first | (go_at_call 40; (with_reducible refine (round_c' _ _ _ _ _).mono ?_); rintro e w1 ⟨rfl, hb1⟩; obtain ⟨hc1, hf1, hz1⟩ := bcell hb1; (try simp only [World.size_alloc, World.size_setCell, World.size_drew] at hc1 hf1 hz1)))
        refine bodyPost_ret ?_ rfl ⟨rfl, (by repeat' (first | (with_reducible exact Below.refl _ _) | (with_reducible assumption) | (with_reducible refine Below.alloc ?_ ?_ _) | (with_reducible refine Below.setCell ?_ ?_ _) | (with_reducible refine Below.drew ?_) | (with_reducible refine below_dn ?_ _) | (with_reducible refine Below.trans ?_ (Below.mono (by assumption) ?_)) | go_size))⟩
        simp only [results, Try.results13]; rw [HR.out]; simp [*, go_sem, ↓IntWalk.iteOmega, Fa.zero]; try (first | rfl | exact ⟨rfl, rfl⟩)
      · have HP2 := Lib.hid (Fa.ph_next HP.out hr hn)
        clear HP
        cases e0 : (g'.t.v == g.t.v)
        · clear hn
          go_wp2_with (first | (go_at_call 40; (with_reducible refine (round_c' _ _ _ _ _).mono ?_); rintro e w1 ⟨rfl, hb1⟩; obtain ⟨hc1, hf1, hz1⟩ := bcell hb1; (try simp only [World.size_alloc, World.size_setCell, World.size_drew] at hc1 hf1 hz1)))
          go_roundw
          case rel =>
            refine ⟨i + 1, g', by have := Fa.ph_le HP2.out; omega, by go_num, HP2, ?_⟩
            unfold RSetAt
            refine ⟨?_, ?_, ?_, ?_, ?_, ?_, ?_, ?_, ?_, ?_, (by (try simp only [World.size_alloc, World.size_setCell, World.size_drew]); omega), (by repeat' (first | (with_reducible exact Below.refl _ _) | (with_reducible assumption) | (with_reducible refine Below.alloc ?_ ?_ _) | (with_reducible refine Below.setCell ?_ ?_ _) | (with_reducible refine Below.drew ?_) | (with_reducible refine below_dn ?_ _) | (with_reducible refine Below.trans ?_ (Below.mono (by assumption) ?_)) | go_size))⟩
            all_goals first | (intro o; simp [*, go_sem, ↓IntWalk.iteOmega]; done) | (simp [*, go_sem, ↓IntWalk.iteOmega]; done)
          case measure => simp [intOf]; try omega
        cases e1 : (g'.t.m == g.t.m)
        · clear hn
          go_wp2_with (first | (go_at_call 40; (with_reducible refine (round_c' _ _ _ _ _).mono ?_); rintro e w1 ⟨rfl, hb1⟩; obtain ⟨hc1, hf1, hz1⟩ := bcell hb1; (try simp only [World.size_alloc, World.size_setCell, World.size_drew] at hc1 hf1 hz1)))
          go_roundw
          case rel =>
            refine ⟨i + 1, g', by have := Fa.ph_le HP2.out; omega, by go_num, HP2, ?_⟩
            unfold RSetAt
            refine ⟨?_, ?_, ?_, ?_, ?_, ?_, ?_, ?_, ?_, ?_, (by (try simp only [World.size_alloc, World.size_setCell, World.size_drew]); omega), (by repeat' (first | (with_reducible exact Below.refl _ _) | (with_reducible assumption) | (with_reducible refine Below.alloc ?_ ?_ _) | (with_reducible refine Below.setCell ?_ ?_ _) | (with_reducible refine Below.drew ?_) | (with_reducible refine below_dn ?_ _) | (with_reducible refine Below.trans ?_ (Below.mono (by assumption) ?_)) | go_size))⟩
            all_goals first | (intro o; simp [*, go_sem, ↓IntWalk.iteOmega]; done) | (simp [*, go_sem, ↓IntWalk.iteOmega]; done)
          case measure => simp [intOf]; try omega
        cases e2 : (g'.s.lo == g.s.lo)
        · clear hn
          go_wp2_with (first | (go_at_call 40; (with_reducible refine (round_c' _ _ _ _ _).mono ?_); rintro e w1 ⟨rfl, hb1⟩; obtain ⟨hc1, hf1, hz1⟩ := bcell hb1; (try simp only [World.size_alloc, World.size_setCell, World.size_drew] at hc1 hf1 hz1)))
          go_roundw
          case rel =>
            refine ⟨i + 1, g', by have := Fa.ph_le HP2.out; omega, by go_num, HP2, ?_⟩
            unfold RSetAt
            refine ⟨?_, ?_, ?_, ?_, ?_, ?_, ?_, ?_, ?_, ?_, (by (try simp only [World.size_alloc, World.size_setCell, World.size_drew]); omega), (by repeat' (first | (with_reducible exact Below.refl _ _) | (with_reducible assumption) | (with_reducible refine Below.alloc ?_ ?_ _) | (with_reducible refine Below.setCell ?_ ?_ _) | (with_reducible refine Below.drew ?_) | (with_reducible refine below_dn ?_ _) | (with_reducible refine Below.trans ?_ (Below.mono (by assumption) ?_)) | go_size))⟩
            all_goals first | (intro o; simp [*, go_sem, ↓IntWalk.iteOmega]; done) | (simp [*, go_sem, ↓IntWalk.iteOmega]; done)
          case measure => simp [intOf]; try omega
        cases e3 : (g'.s.hi == g.s.hi)
        · clear hn
          go_wp2_with (first | (go_at_call 40; (with_reducible refine (round_c' _ _ _ _ _).mono ?_); rintro e w1 ⟨rfl, hb1⟩; obtain ⟨hc1, hf1, hz1⟩ := bcell hb1; (try simp only [World.size_alloc, World.size_setCell, World.size_drew] at hc1 hf1 hz1)))
          go_roundw
          case rel =>
            refine ⟨i + 1, g', by have := Fa.ph_le HP2.out; omega, by go_num, HP2, ?_⟩
            unfold RSetAt
            refine ⟨?_, ?_, ?_, ?_, ?_, ?_, ?_, ?_, ?_, ?_, (by (try simp only [World.size_alloc, World.size_setCell, World.size_drew]); omega), (by repeat' (first | (with_reducible exact Below.refl _ _) | (with_reducible assumption) | (with_reducible refine Below.alloc ?_ ?_ _) | (with_reducible refine Below.setCell ?_ ?_ _) | (with_reducible refine Below.drew ?_) | (with_reducible refine below_dn ?_ _) | (with_reducible refine Below.trans ?_ (Below.mono (by assumption) ?_)) | go_size))⟩
            all_goals first | (intro o; simp [*, go_sem, ↓IntWalk.iteOmega]; done) | (simp [*, go_sem, ↓IntWalk.iteOmega]; done)
          case measure => simp [intOf]; try omega
        exact absurd (Fa.fa_eq (Fa.beq_c e0) (Fa.beq_c e1) (Fa.beq_c e2) (Fa.beq_c e3)) hn

theorem rsettle_c (f : Fa) (w : World) : Calls Try.prog 13 #[.agg #[.int .u64 (N f.t.v), .int .u64 (N f.t.m), .int .u64 (N f.s.lo), .int .u64 (N f.s.hi)]] w fun e w' => e = .returned (.tuple #[.agg #[.int .u64 (N ((Fa.settle f).getD Fa.zero).t.v), .int .u64 (N ((Fa.settle f).getD Fa.zero).t.m), .int .u64 (N ((Fa.settle f).getD Fa.zero).s.lo), .int .u64 (N ((Fa.settle f).getD Fa.zero).s.hi)], .bool (Fa.settle f).isSome]) ∧ Below w.heap.size w w' := by
  cases h1 : f.t.right
  · exact rsettle_no1 f h1 w
  · cases h2 : f.s.right
    · exact rsettle_no2 f h1 h2 w
    · exact rsettle_yes f h1 h2 w

theorem rsettle_c' (x0 y0 z0 u0 : BitVec 64) (w : World) : Calls Try.prog 13 #[.agg #[.int .u64 (N x0), .int .u64 (N y0), .int .u64 (N z0), .int .u64 (N u0)]] w fun e w' => e = .returned (.tuple #[.agg #[.int .u64 (N ((Fa.settle (⟨⟨x0, y0⟩, ⟨z0, u0⟩⟩ : Fa)).getD Fa.zero).t.v), .int .u64 (N ((Fa.settle (⟨⟨x0, y0⟩, ⟨z0, u0⟩⟩ : Fa)).getD Fa.zero).t.m), .int .u64 (N ((Fa.settle (⟨⟨x0, y0⟩, ⟨z0, u0⟩⟩ : Fa)).getD Fa.zero).s.lo), .int .u64 (N ((Fa.settle (⟨⟨x0, y0⟩, ⟨z0, u0⟩⟩ : Fa)).getD Fa.zero).s.hi)], .bool (Fa.settle (⟨⟨x0, y0⟩, ⟨z0, u0⟩⟩ : Fa)).isSome]) ∧ Below w.heap.size w w' := by
  exact rsettle_c (⟨⟨x0, y0⟩, ⟨z0, u0⟩⟩ : Fa) w

end Hk

namespace Hk
open Go Go.RowKit Go.Proofs
set_option linter.unusedSimpArgs false
set_option linter.unusedVariables false
set_option maxRecDepth 100000
attribute [go_sem] Tn.eta
theorem rfright_none (f : Fa) (h : Fa.settle f = none) (w : World) : Calls Try.prog 23 #[.agg #[.int .u64 (N f.t.v), .int .u64 (N f.t.m), .int .u64 (N f.s.lo), .int .u64 (N f.s.hi)]] w fun e w' => e = .returned (.bool (false)) ∧ Below w.heap.size w w' := by
  go_enter Try.func23, Try.ntmps23
  go_wp2_with (first | (go_at_call 13; (with_reducible refine (rsettle_c' _ _ _ _ _).mono ?_); rintro e w1 ⟨rfl, hb1⟩; obtain ⟨hc1, hf1, hz1⟩ := bcell hb1; (try simp only [World.size_alloc, World.size_setCell, World.size_drew] at hc1 hf1 hz1)))
  (try go_region)
  (try go_wp2)
  go_ret
  exact ⟨rfl, (by repeat' (first | (with_reducible exact Below.refl _ _) | (with_reducible assumption) | (with_reducible refine Below.alloc ?_ ?_ _) | (with_reducible refine Below.setCell ?_ ?_ _) | (with_reducible refine Below.drew ?_) | (with_reducible refine below_dn ?_ _) | (with_reducible refine Below.trans ?_ (Below.mono (by assumption) ?_)) | go_size))⟩

theorem rfright_same (f : Fa) (h : Fa.settle f = some f) (w : World) : Calls Try.prog 23 #[.agg #[.int .u64 (N f.t.v), .int .u64 (N f.t.m), .int .u64 (N f.s.lo), .int .u64 (N f.s.hi)]] w fun e w' => e = .returned (.bool (true)) ∧ Below w.heap.size w w' := by
  go_enter Try.func23, Try.ntmps23
  go_wp2_with (first | (go_at_call 13; (with_reducible refine (rsettle_c' _ _ _ _ _).mono ?_); rintro e w1 ⟨rfl, hb1⟩; obtain ⟨hc1, hf1, hz1⟩ := bcell hb1; (try simp only [World.size_alloc, World.size_setCell, World.size_drew] at hc1 hf1 hz1)))
  (try go_region)
  (try go_wp2)
  go_ret
  exact ⟨rfl, (by repeat' (first | (with_reducible exact Below.refl _ _) | (with_reducible assumption) | (with_reducible refine Below.alloc ?_ ?_ _) | (with_reducible refine Below.setCell ?_ ?_ _) | (with_reducible refine Below.drew ?_) | (with_reducible refine below_dn ?_ _) | (with_reducible refine Below.trans ?_ (Below.mono (by assumption) ?_)) | go_size))⟩

theorem rfright_0 (f : Fa) (g : Fa) (h : Fa.settle f = some g) (e0 : (g.t.v == f.t.v) = false) (w : World) : Calls Try.prog 23 #[.agg #[.int .u64 (N f.t.v), .int .u64 (N f.t.m), .int .u64 (N f.s.lo), .int .u64 (N f.s.hi)]] w fun e w' => e = .returned (.bool (false)) ∧ Below w.heap.size w w' := by
  go_enter Try.func23, Try.ntmps23
  go_wp2_with (first | (go_at_call 13; (with_reducible refine (rsettle_c' _ _ _ _ _).mono ?_); rintro e w1 ⟨rfl, hb1⟩; obtain ⟨hc1, hf1, hz1⟩ := bcell hb1; (try simp only [World.size_alloc, World.size_setCell, World.size_drew] at hc1 hf1 hz1)))
  (try go_region)
  (try go_wp2)
  go_ret
  exact ⟨rfl, (by repeat' (first | (with_reducible exact Below.refl _ _) | (with_reducible assumption) | (with_reducible refine Below.alloc ?_ ?_ _) | (with_reducible refine Below.setCell ?_ ?_ _) | (with_reducible refine Below.drew ?_) | (with_reducible refine below_dn ?_ _) | (with_reducible refine Below.trans ?_ (Below.mono (by assumption) ?_)) | go_size))⟩

theorem rfright_1 (f : Fa) (g : Fa) (h : Fa.settle f = some g) (e0 : (g.t.v == f.t.v) = true) (e1 : (g.t.m == f.t.m) = false) (w : World) : Calls Try.prog 23 #[.agg #[.int .u64 (N f.t.v), .int .u64 (N f.t.m), .int .u64 (N f.s.lo), .int .u64 (N f.s.hi)]] w fun e w' => e = .returned (.bool (false)) ∧ Below w.heap.size w w' := by
  go_enter Try.func23, Try.ntmps23
  go_wp2_with (first | (go_at_call 13; (with_reducible refine (rsettle_c' _ _ _ _ _).mono ?_); rintro e w1 ⟨rfl, hb1⟩; obtain ⟨hc1, hf1, hz1⟩ := bcell hb1; (try simp only [World.size_alloc, World.size_setCell, World.size_drew] at hc1 hf1 hz1)))
  (try go_region)
  (try go_wp2)
  go_ret
  exact ⟨rfl, (by repeat' (first | (with_reducible exact Below.refl _ _) | (with_reducible assumption) | (with_reducible refine Below.alloc ?_ ?_ _) | (with_reducible refine Below.setCell ?_ ?_ _) | (with_reducible refine Below.drew ?_) | (with_reducible refine below_dn ?_ _) | (with_reducible refine Below.trans ?_ (Below.mono (by assumption) ?_)) | go_size))⟩

theorem rfright_2 (f : Fa) (g : Fa) (h : Fa.settle f = some g) (e0 : (g.t.v == f.t.v) = true) (e1 : (g.t.m == f.t.m) = true) (e2 : (g.s.lo == f.s.lo) = false) (w : World) : Calls Try.prog 23 #[.agg #[.int .u64 (N f.t.v), .int .u64 (N f.t.m), .int .u64 (N f.s.lo), .int .u64 (N f.s.hi)]] w fun e w' => e = .returned (.bool (false)) ∧ Below w.heap.size w w' := by
  go_enter Try.func23, Try.ntmps23
  go_wp2_with (first | (go_at_call 13; (with_reducible refine (rsettle_c' _ _ _ _ _).mono ?_); rintro e w1 ⟨rfl, hb1⟩; obtain ⟨hc1, hf1, hz1⟩ := bcell hb1; (try simp only [World.size_alloc, World.size_setCell, World.size_drew] at hc1 hf1 hz1)))
  (try go_region)
  (try go_wp2)
  go_ret
  exact ⟨rfl, (by repeat' (first | (with_reducible exact Below.refl _ _) | (with_reducible assumption) | (with_reducible refine Below.alloc ?_ ?_ _) | (with_reducible refine Below.setCell ?_ ?_ _) | (with_reducible refine Below.drew ?_) | (with_reducible refine below_dn ?_ _) | (with_reducible refine Below.trans ?_ (Below.mono (by assumption) ?_)) | go_size))⟩

theorem rfright_3 (f : Fa) (g : Fa) (h : Fa.settle f = some g) (e0 : (g.t.v == f.t.v) = true) (e1 : (g.t.m == f.t.m) = true) (e2 : (g.s.lo == f.s.lo) = true) (e3 : (g.s.hi == f.s.hi) = false) (w : World) : Calls Try.prog 23 #[.agg #[.int .u64 (N f.t.v), .int .u64 (N f.t.m), .int .u64 (N f.s.lo), .int .u64 (N f.s.hi)]] w fun e w' => e = .returned (.bool (false)) ∧ Below w.heap.size w w' := by
  go_enter Try.func23, Try.ntmps23
  go_wp2_with (first | (go_at_call 13; (with_reducible refine (rsettle_c' _ _ _ _ _).mono ?_); rintro e w1 ⟨rfl, hb1⟩; obtain ⟨hc1, hf1, hz1⟩ := bcell hb1; (try simp only [World.size_alloc, World.size_setCell, World.size_drew] at hc1 hf1 hz1)))
  (try go_region)
  (try go_wp2)
  go_ret
  exact ⟨rfl, (by repeat' (first | (with_reducible exact Below.refl _ _) | (with_reducible assumption) | (with_reducible refine Below.alloc ?_ ?_ _) | (with_reducible refine Below.setCell ?_ ?_ _) | (with_reducible refine Below.drew ?_) | (with_reducible refine below_dn ?_ _) | (with_reducible refine Below.trans ?_ (Below.mono (by assumption) ?_)) | go_size))⟩

theorem rfright_c (f : Fa) (w : World) : Calls Try.prog 23 #[.agg #[.int .u64 (N f.t.v), .int .u64 (N f.t.m), .int .u64 (N f.s.lo), .int .u64 (N f.s.hi)]] w fun e w' => e = .returned (.bool ((Fa.ok f))) ∧ Below w.heap.size w w' := by
  rcases h : Fa.settle f with _ | g
  · rw [Fa.ok_none h]; exact rfright_none f h w
  · by_cases e : g = f
    · subst e; rw [Fa.ok_same h]; exact rfright_same g h w
    · rw [Fa.ok_ne h e]
      cases e0 : (g.t.v == f.t.v)
      · exact rfright_0 f g h e0 w
      cases e1 : (g.t.m == f.t.m)
      · exact rfright_1 f g h e0 e1 w
      cases e2 : (g.s.lo == f.s.lo)
      · exact rfright_2 f g h e0 e1 e2 w
      cases e3 : (g.s.hi == f.s.hi)
      · exact rfright_3 f g h e0 e1 e2 e3 w
      exact absurd (Fa.fa_eq (Fa.beq_c e0) (Fa.beq_c e1) (Fa.beq_c e2) (Fa.beq_c e3)) e

theorem rfright_c' (x0 y0 z0 u0 : BitVec 64) (w : World) : Calls Try.prog 23 #[.agg #[.int .u64 (N x0), .int .u64 (N y0), .int .u64 (N z0), .int .u64 (N u0)]] w fun e w' => e = .returned (.bool (Fa.ok (⟨⟨x0, y0⟩, ⟨z0, u0⟩⟩ : Fa))) ∧ Below w.heap.size w w' := by
  exact rfright_c (⟨⟨x0, y0⟩, ⟨z0, u0⟩⟩ : Fa) w

theorem rfsettled_c (t : Tn) (s : Sp) (w : World) : Calls Try.prog 60 #[.agg #[.int .u64 (N t.v), .int .u64 (N t.m)], .agg #[.int .u64 (N s.lo), .int .u64 (N s.hi)]] w fun e w' => e = .returned (.agg #[.int .u64 (N (Fa.settled t s).t.v), .int .u64 (N (Fa.settled t s).t.m), .int .u64 (N (Fa.settled t s).s.lo), .int .u64 (N (Fa.settled t s).s.hi)]) ∧ Below w.heap.size w w' := by
  go_enter Try.func60, Try.ntmps60
  go_wp2_with (first | (go_at_call 13; (with_reducible refine (rsettle_c' _ _ _ _ _).mono ?_); rintro e w1 ⟨rfl, hb1⟩; obtain ⟨hc1, hf1, hz1⟩ := bcell hb1; (try simp only [World.size_alloc, World.size_setCell, World.size_drew] at hc1 hf1 hz1)))
  refine bodyPost_ret ?_ rfl ⟨rfl, (by repeat' (first | (with_reducible exact Below.refl _ _) | (with_reducible assumption) | (with_reducible refine Below.alloc ?_ ?_ _) | (with_reducible refine Below.setCell ?_ ?_ _) | (with_reducible refine Below.drew ?_) | (with_reducible refine below_dn ?_ _) | (with_reducible refine Below.trans ?_ (Below.mono (by assumption) ?_)) | go_size))⟩
  simp only [results, Try.results60]; simp [*, go_sem, ↓IntWalk.iteOmega, Fa.settled]; try (first | rfl | exact ⟨rfl, rfl⟩)

theorem rfsettled_c' (x0 y0 : BitVec 64) (x1 y1 : BitVec 64) (w : World) : Calls Try.prog 60 #[.agg #[.int .u64 (N x0), .int .u64 (N y0)], .agg #[.int .u64 (N x1), .int .u64 (N y1)]] w fun e w' => e = .returned (.agg #[.int .u64 (N (Fa.settled (⟨x0, y0⟩ : Tn) (⟨x1, y1⟩ : Sp)).t.v), .int .u64 (N (Fa.settled (⟨x0, y0⟩ : Tn) (⟨x1, y1⟩ : Sp)).t.m), .int .u64 (N (Fa.settled (⟨x0, y0⟩ : Tn) (⟨x1, y1⟩ : Sp)).s.lo), .int .u64 (N (Fa.settled (⟨x0, y0⟩ : Tn) (⟨x1, y1⟩ : Sp)).s.hi)]) ∧ Below w.heap.size w w' := by
  exact rfsettled_c (⟨x0, y0⟩ : Tn) (⟨x1, y1⟩ : Sp) w

theorem rfof_c (n : BitVec 64) (w : World) : Calls Try.prog 24 #[.int .u64 (N n)] w fun e w' => e = .returned (.agg #[.int .u64 (N (Fa.of n).t.v), .int .u64 (N (Fa.of n).t.m), .int .u64 (N (Fa.of n).s.lo), .int .u64 (N (Fa.of n).s.hi)]) ∧ Below w.heap.size w w' := by
  go_enter Try.func24, Try.ntmps24
  go_wp2
  refine bodyPost_ret ?_ rfl ⟨rfl, (by repeat' (first | (with_reducible exact Below.refl _ _) | (with_reducible assumption) | (with_reducible refine Below.alloc ?_ ?_ _) | (with_reducible refine Below.setCell ?_ ?_ _) | (with_reducible refine Below.drew ?_) | (with_reducible refine below_dn ?_ _) | (with_reducible refine Below.trans ?_ (Below.mono (by assumption) ?_)) | go_size))⟩
  simp only [results, Try.results24]; simp [*, go_sem, ↓IntWalk.iteOmega, Fa.of, Tn.of]; try (first | rfl | exact ⟨rfl, rfl⟩)

theorem rfof_c' (x0 : BitVec 64) (w : World) : Calls Try.prog 24 #[.int .u64 (N x0)] w fun e w' => e = .returned (.agg #[.int .u64 (N (Fa.of x0).t.v), .int .u64 (N (Fa.of x0).t.m), .int .u64 (N (Fa.of x0).s.lo), .int .u64 (N (Fa.of x0).s.hi)]) ∧ Below w.heap.size w w' := by
  exact rfof_c x0 w

theorem rfany_c  (w : World) : Calls Try.prog 26 #[] w fun e w' => e = .returned (.agg #[.int .u64 (N Fa.any.t.v), .int .u64 (N Fa.any.t.m), .int .u64 (N Fa.any.s.lo), .int .u64 (N Fa.any.s.hi)]) ∧ Below w.heap.size w w' := by
  go_enter Try.func26, Try.ntmps26
  go_wp2_with (first | (go_at_call 55; (with_reducible refine (rsall_c _).mono ?_); rintro e w1 ⟨rfl, hb1⟩; obtain ⟨hc1, hf1, hz1⟩ := bcell hb1; (try simp only [World.size_alloc, World.size_setCell, World.size_drew] at hc1 hf1 hz1)))
  refine bodyPost_ret ?_ rfl ⟨rfl, (by repeat' (first | (with_reducible exact Below.refl _ _) | (with_reducible assumption) | (with_reducible refine Below.alloc ?_ ?_ _) | (with_reducible refine Below.setCell ?_ ?_ _) | (with_reducible refine Below.drew ?_) | (with_reducible refine below_dn ?_ _) | (with_reducible refine Below.trans ?_ (Below.mono (by assumption) ?_)) | go_size))⟩
  simp only [results, Try.results26]; simp [*, go_sem, ↓IntWalk.iteOmega, Fa.any, Sp.all]; try (first | rfl | exact ⟨rfl, rfl⟩)

theorem rfknown_c (f : Fa) (w : World) : Calls Try.prog 21 #[.agg #[.int .u64 (N f.t.v), .int .u64 (N f.t.m), .int .u64 (N f.s.lo), .int .u64 (N f.s.hi)]] w fun e w' => e = .returned (.tuple #[.int .u64 (N ((Fa.known f).getD 0#64)), .bool (Fa.known f).isSome]) ∧ Below w.heap.size w w' := by
  cases h1 : (f.t.m == 0#64) <;> cases h2 : Fa.ok f
  all_goals
    rw [Fa.known_is, h1, h2]
    simp only [Bool.and_self, Bool.and_true, Bool.true_and, Bool.and_false, Bool.false_and, Bool.false_eq_true, if_true, if_false, Option.getD_some, Option.getD_none, Option.isSome_some, Option.isSome_none]
    go_enter Try.func21, Try.ntmps21
    go_wp2_with (first | (go_at_call 23; (with_reducible refine (rfright_c' _ _ _ _ _).mono ?_); rintro e w1 ⟨rfl, hb1⟩; obtain ⟨hc1, hf1, hz1⟩ := bcell hb1; (try simp only [World.size_alloc, World.size_setCell, World.size_drew] at hc1 hf1 hz1)))
    go_ret2
    exact ⟨rfl, (by repeat' (first | (with_reducible exact Below.refl _ _) | (with_reducible assumption) | (with_reducible refine Below.alloc ?_ ?_ _) | (with_reducible refine Below.setCell ?_ ?_ _) | (with_reducible refine Below.drew ?_) | (with_reducible refine below_dn ?_ _) | (with_reducible refine Below.trans ?_ (Below.mono (by assumption) ?_)) | go_size))⟩

theorem rfknown_c' (x0 y0 z0 u0 : BitVec 64) (w : World) : Calls Try.prog 21 #[.agg #[.int .u64 (N x0), .int .u64 (N y0), .int .u64 (N z0), .int .u64 (N u0)]] w fun e w' => e = .returned (.tuple #[.int .u64 (N ((Fa.known (⟨⟨x0, y0⟩, ⟨z0, u0⟩⟩ : Fa)).getD 0#64)), .bool (Fa.known (⟨⟨x0, y0⟩, ⟨z0, u0⟩⟩ : Fa)).isSome]) ∧ Below w.heap.size w w' := by
  exact rfknown_c (⟨⟨x0, y0⟩, ⟨z0, u0⟩⟩ : Fa) w

theorem rfhas_c (f : Fa) (n : BitVec 64) (w : World) : Calls Try.prog 28 #[.agg #[.int .u64 (N f.t.v), .int .u64 (N f.t.m), .int .u64 (N f.s.lo), .int .u64 (N f.s.hi)], .int .u64 (N n)] w fun e w' => e = .returned (.bool ((Fa.has f n))) ∧ Below w.heap.size w w' := by
  cases h1 : Fa.ok f <;> cases h2 : f.t.has n <;> cases h3 : f.s.has n
  all_goals
    go_enter Try.func28, Try.ntmps28
    go_wp2_with (first | (go_at_call 23; (with_reducible refine (rfright_c' _ _ _ _ _).mono ?_); rintro e w1 ⟨rfl, hb1⟩; obtain ⟨hc1, hf1, hz1⟩ := bcell hb1; (try simp only [World.size_alloc, World.size_setCell, World.size_drew] at hc1 hf1 hz1)) | (go_at_call 58; (with_reducible refine (r_has_c' _ _ _ _).mono ?_); rintro e w1 ⟨rfl, hb1⟩; obtain ⟨hc1, hf1, hz1⟩ := bcell hb1; (try simp only [World.size_alloc, World.size_setCell, World.size_drew] at hc1 hf1 hz1)) | (go_at_call 59; (with_reducible refine (rshas_c' _ _ _ _).mono ?_); rintro e w1 ⟨rfl, hb1⟩; obtain ⟨hc1, hf1, hz1⟩ := bcell hb1; (try simp only [World.size_alloc, World.size_setCell, World.size_drew] at hc1 hf1 hz1)))
    go_ret
    exact ⟨by simp [Fa.has, h1, h2, h3], (by repeat' (first | (with_reducible exact Below.refl _ _) | (with_reducible assumption) | (with_reducible refine Below.alloc ?_ ?_ _) | (with_reducible refine Below.setCell ?_ ?_ _) | (with_reducible refine Below.drew ?_) | (with_reducible refine below_dn ?_ _) | (with_reducible refine Below.trans ?_ (Below.mono (by assumption) ?_)) | go_size))⟩

theorem rfhas_c' (x0 y0 z0 u0 : BitVec 64) (x1 : BitVec 64) (w : World) : Calls Try.prog 28 #[.agg #[.int .u64 (N x0), .int .u64 (N y0), .int .u64 (N z0), .int .u64 (N u0)], .int .u64 (N x1)] w fun e w' => e = .returned (.bool ((Fa.has (⟨⟨x0, y0⟩, ⟨z0, u0⟩⟩ : Fa) x1))) ∧ Below w.heap.size w w' := by
  exact rfhas_c (⟨⟨x0, y0⟩, ⟨z0, u0⟩⟩ : Fa) x1 w

theorem rfwithin_c (a b : Fa) (w : World) : Calls Try.prog 31 #[.agg #[.int .u64 (N a.t.v), .int .u64 (N a.t.m), .int .u64 (N a.s.lo), .int .u64 (N a.s.hi)], .agg #[.int .u64 (N b.t.v), .int .u64 (N b.t.m), .int .u64 (N b.s.lo), .int .u64 (N b.s.hi)]] w fun e w' => e = .returned (.bool ((Fa.within a b))) ∧ Below w.heap.size w w' := by
  cases h1 : Fa.ok a <;> cases h2 : Fa.ok b <;> cases h3 : a.t.within b.t <;> cases h4 : a.s.within b.s
  all_goals
    go_enter Try.func31, Try.ntmps31
    go_wp2_with (first | (go_at_call 23; (with_reducible refine (rfright_c' _ _ _ _ _).mono ?_); rintro e w1 ⟨rfl, hb1⟩; obtain ⟨hc1, hf1, hz1⟩ := bcell hb1; (try simp only [World.size_alloc, World.size_setCell, World.size_drew] at hc1 hf1 hz1)) | (go_at_call 65; (with_reducible refine (r_within_c' _ _ _ _ _).mono ?_); rintro e w1 ⟨rfl, hb1⟩; obtain ⟨hc1, hf1, hz1⟩ := bcell hb1; (try simp only [World.size_alloc, World.size_setCell, World.size_drew] at hc1 hf1 hz1)) | (go_at_call 66; (with_reducible refine (rswithin_c' _ _ _ _ _).mono ?_); rintro e w1 ⟨rfl, hb1⟩; obtain ⟨hc1, hf1, hz1⟩ := bcell hb1; (try simp only [World.size_alloc, World.size_setCell, World.size_drew] at hc1 hf1 hz1)))
    go_ret
    exact ⟨by simp [Fa.within, h1, h2, h3, h4], (by repeat' (first | (with_reducible exact Below.refl _ _) | (with_reducible assumption) | (with_reducible refine Below.alloc ?_ ?_ _) | (with_reducible refine Below.setCell ?_ ?_ _) | (with_reducible refine Below.drew ?_) | (with_reducible refine below_dn ?_ _) | (with_reducible refine Below.trans ?_ (Below.mono (by assumption) ?_)) | go_size))⟩

theorem rfwithin_c' (x0 y0 z0 u0 : BitVec 64) (x1 y1 z1 u1 : BitVec 64) (w : World) : Calls Try.prog 31 #[.agg #[.int .u64 (N x0), .int .u64 (N y0), .int .u64 (N z0), .int .u64 (N u0)], .agg #[.int .u64 (N x1), .int .u64 (N y1), .int .u64 (N z1), .int .u64 (N u1)]] w fun e w' => e = .returned (.bool ((Fa.within (⟨⟨x0, y0⟩, ⟨z0, u0⟩⟩ : Fa) (⟨⟨x1, y1⟩, ⟨z1, u1⟩⟩ : Fa)))) ∧ Below w.heap.size w w' := by
  exact rfwithin_c (⟨⟨x0, y0⟩, ⟨z0, u0⟩⟩ : Fa) (⟨⟨x1, y1⟩, ⟨z1, u1⟩⟩ : Fa) w

end Hk

