/- Package fact: Join, Cut; old memory is as it was. No condition but those in each statement. -/
import Derived.Test.YtmhkngblpojeaaaProg
import Derived.Test.YtmhkngblpojeaaaGp
import Derived.Test.YtmhkngblpojeaaaGf
import Derived.Test.YtmhkngblpojeaaaGm
import Derived.Test.YtmhkngblpojeaaaGl
namespace Hk
open Go Go.RowKit Go.Proofs
set_option linter.unusedSimpArgs false
set_option linter.unusedVariables false
set_option maxRecDepth 100000
attribute [go_sem] Tn.eta
def FJoinC (a b z : Fa) (w : World) (w' : World) : Prop := w'.cell? ⟨w.heap.size, 0, none⟩ = some (.int .u64 (N a.t.v)) ∧ w'.cell? ⟨w.heap.size, 1, none⟩ = some (.int .u64 (N a.t.m)) ∧ w'.cell? ⟨w.heap.size, 2, none⟩ = some (.int .u64 (N a.s.lo)) ∧ w'.cell? ⟨w.heap.size, 3, none⟩ = some (.int .u64 (N a.s.hi)) ∧ w'.cell? ⟨w.heap.size + 1, 0, none⟩ = some (.int .u64 (N b.t.v)) ∧ w'.cell? ⟨w.heap.size + 1, 1, none⟩ = some (.int .u64 (N b.t.m)) ∧ w'.cell? ⟨w.heap.size + 1, 2, none⟩ = some (.int .u64 (N b.s.lo)) ∧ w'.cell? ⟨w.heap.size + 1, 3, none⟩ = some (.int .u64 (N b.s.hi)) ∧ w'.cell? ⟨w.heap.size + 1 + 1, 0, none⟩ = some (.int .u64 (N z.t.v)) ∧ w'.cell? ⟨w.heap.size + 1 + 1, 1, none⟩ = some (.int .u64 (N z.t.m)) ∧ w'.cell? ⟨w.heap.size + 1 + 1, 2, none⟩ = some (.int .u64 (N z.s.lo)) ∧ w'.cell? ⟨w.heap.size + 1 + 1, 3, none⟩ = some (.int .u64 (N z.s.hi)) ∧ (∀ i, w'.frozen? ⟨w.heap.size + 1 + 1, i, none⟩ = false) ∧ Below w.heap.size w w'
theorem FJoinC_keep {a b z : Fa} {w : World} (w' w1 : World) (h : FJoinC a b z w w') (hb : Below w'.heap.size w' w1) : FJoinC a b z w w1 := by
  obtain ⟨k0, k1, k2, k3, k4, k5, k6, k7, k8, k9, k10, k11, k12, k13⟩ := h
  exact ⟨cell_keep hb k0, cell_keep hb k1, cell_keep hb k2, cell_keep hb k3, cell_keep hb k4, cell_keep hb k5, cell_keep hb k6, cell_keep hb k7, cell_keep hb k8, cell_keep hb k9, cell_keep hb k10, cell_keep hb k11, frozen_keep hb k8 k12, below_next k13 hb⟩

theorem fjoin_no1 (a b : Fa) (h1 : Fa.ok a = false) (w : World) : Calls Try.prog 32 #[.agg #[.int .u64 (N a.t.v), .int .u64 (N a.t.m), .int .u64 (N a.s.lo), .int .u64 (N a.s.hi)], .agg #[.int .u64 (N b.t.v), .int .u64 (N b.t.m), .int .u64 (N b.s.lo), .int .u64 (N b.s.hi)]] w fun e w' => e = .returned (.agg #[.int .u64 (N (Fa.join a b).t.v), .int .u64 (N (Fa.join a b).t.m), .int .u64 (N (Fa.join a b).s.lo), .int .u64 (N (Fa.join a b).s.hi)]) ∧ Below w.heap.size w w' := by
  rw [Fa.join_no1 h1]
  go_enter Try.func32, Try.ntmps32
  go_wp2_with (first | (go_at_call 22; (with_reducible refine (fright_c' _ _ _ _ _).mono ?_); rintro e w1 ⟨rfl, hb1⟩; obtain ⟨hc1, hf1, hz1⟩ := bcell hb1; (try simp only [World.size_alloc, World.size_setCell, World.size_drew] at hc1 hf1 hz1)))
  refine bodyPost_ret ?_ rfl ⟨rfl, (by repeat' (first | (with_reducible exact Below.refl _ _) | (with_reducible assumption) | (with_reducible refine Below.alloc ?_ ?_ _) | (with_reducible refine Below.setCell ?_ ?_ _) | (with_reducible refine Below.drew ?_) | (with_reducible refine below_dn ?_ _) | (with_reducible refine Below.trans ?_ (Below.mono (by assumption) ?_)) | go_size))⟩
  simp only [results, Try.results32]; simp [*, go_sem, ↓IntWalk.iteOmega, Fa.zero]; try (first | rfl | exact ⟨rfl, rfl⟩)

theorem fjoin_no2 (a b : Fa) (h1 : Fa.ok a = true) (h2 : Fa.ok b = false) (w : World) : Calls Try.prog 32 #[.agg #[.int .u64 (N a.t.v), .int .u64 (N a.t.m), .int .u64 (N a.s.lo), .int .u64 (N a.s.hi)], .agg #[.int .u64 (N b.t.v), .int .u64 (N b.t.m), .int .u64 (N b.s.lo), .int .u64 (N b.s.hi)]] w fun e w' => e = .returned (.agg #[.int .u64 (N (Fa.join a b).t.v), .int .u64 (N (Fa.join a b).t.m), .int .u64 (N (Fa.join a b).s.lo), .int .u64 (N (Fa.join a b).s.hi)]) ∧ Below w.heap.size w w' := by
  rw [Fa.join_no2 h1 h2]
  go_enter Try.func32, Try.ntmps32
  go_wp2_with (first | (go_at_call 22; (with_reducible refine (fright_c' _ _ _ _ _).mono ?_); rintro e w1 ⟨rfl, hb1⟩; obtain ⟨hc1, hf1, hz1⟩ := bcell hb1; (try simp only [World.size_alloc, World.size_setCell, World.size_drew] at hc1 hf1 hz1)))
  refine bodyPost_ret ?_ rfl ⟨rfl, (by repeat' (first | (with_reducible exact Below.refl _ _) | (with_reducible assumption) | (with_reducible refine Below.alloc ?_ ?_ _) | (with_reducible refine Below.setCell ?_ ?_ _) | (with_reducible refine Below.drew ?_) | (with_reducible refine below_dn ?_ _) | (with_reducible refine Below.trans ?_ (Below.mono (by assumption) ?_)) | go_size))⟩
  simp only [results, Try.results32]; simp [*, go_sem, ↓IntWalk.iteOmega, Fa.zero]; try (first | rfl | exact ⟨rfl, rfl⟩)

set_option maxHeartbeats 1000000 in
theorem fjoin_yes (a b : Fa) (h1 : Fa.ok a = true) (h2 : Fa.ok b = true) (w : World) : Calls Try.prog 32 #[.agg #[.int .u64 (N a.t.v), .int .u64 (N a.t.m), .int .u64 (N a.s.lo), .int .u64 (N a.s.hi)], .agg #[.int .u64 (N b.t.v), .int .u64 (N b.t.m), .int .u64 (N b.s.lo), .int .u64 (N b.s.hi)]] w fun e w' => e = .returned (.agg #[.int .u64 (N (Fa.join a b).t.v), .int .u64 (N (Fa.join a b).t.m), .int .u64 (N (Fa.join a b).s.lo), .int .u64 (N (Fa.join a b).s.hi)]) ∧ Below w.heap.size w w' := by
  rw [Fa.join_yes h1 h2]
  go_enter Try.func32, Try.ntmps32
  go_wp2_with (first | (go_at_call 22; (with_reducible refine (fright_c' _ _ _ _ _).mono ?_); rintro e w1 ⟨rfl, hb1⟩; obtain ⟨hc1, hf1, hz1⟩ := bcell hb1; (try simp only [World.size_alloc, World.size_setCell, World.size_drew] at hc1 hf1 hz1)))
  refine wp_region_class_tail (FJoinC a b Fa.zero w) 11 (by kernel_rfl) (by kernel_rfl) ?_ ?_
  · refine ⟨?_, ?_, ?_, ?_, ?_, ?_, ?_, ?_, ?_, ?_, ?_, ?_, ?_, (by repeat' (first | (with_reducible exact Below.refl _ _) | (with_reducible assumption) | (with_reducible refine Below.alloc ?_ ?_ _) | (with_reducible refine Below.setCell ?_ ?_ _) | (with_reducible refine Below.drew ?_) | (with_reducible refine below_dn ?_ _) | (with_reducible refine Below.trans ?_ (Below.mono (by assumption) ?_)) | go_size))⟩
    all_goals first | (intro i; simp [*, go_sem, ↓IntWalk.iteOmega]; done) | (simp [*, go_sem, ↓IntWalk.iteOmega]; done)
  intro hN
  (try simp only [List.append])
  simp only [List.take_succ_cons, List.take_zero, List.drop_succ_cons, List.drop_zero]
  repeat (first
    | go_big_quiet_skip
    | (go_big_quiet_want
       first
         | (refine quiet_load_Tn rfl rfl (fun w' hC => by obtain ⟨k0, k1, k2, k3, k4, k5, k6, k7, k8, k9, k10, k11, k12, k13⟩ := hC; first | exact ⟨k0, k1⟩ | exact ⟨k1, k2⟩ | exact ⟨k2, k3⟩ | exact ⟨k3, k4⟩ | exact ⟨k4, k5⟩ | exact ⟨k5, k6⟩ | exact ⟨k6, k7⟩ | exact ⟨k7, k8⟩ | exact ⟨k8, k9⟩ | exact ⟨k9, k10⟩ | exact ⟨k10, k11⟩) ?_
            simp only [Act.put, List.setIfInBounds_toArray, List.set_cons_succ, List.set_cons_zero]
            go_big_quiet_on)
         | (refine quiet_load_Sp rfl rfl (fun w' hC => by obtain ⟨k0, k1, k2, k3, k4, k5, k6, k7, k8, k9, k10, k11, k12, k13⟩ := hC; first | exact ⟨k0, k1⟩ | exact ⟨k1, k2⟩ | exact ⟨k2, k3⟩ | exact ⟨k3, k4⟩ | exact ⟨k4, k5⟩ | exact ⟨k5, k6⟩ | exact ⟨k6, k7⟩ | exact ⟨k7, k8⟩ | exact ⟨k8, k9⟩ | exact ⟨k9, k10⟩ | exact ⟨k10, k11⟩) ?_
            simp only [Act.put, List.setIfInBounds_toArray, List.set_cons_succ, List.set_cons_zero]
            go_big_quiet_on)
         | (refine quiet_load_Fa rfl rfl (fun w' hC => by obtain ⟨k0, k1, k2, k3, k4, k5, k6, k7, k8, k9, k10, k11, k12, k13⟩ := hC; first | exact ⟨k0, k1, k2, k3⟩ | exact ⟨k1, k2, k3, k4⟩ | exact ⟨k2, k3, k4, k5⟩ | exact ⟨k3, k4, k5, k6⟩ | exact ⟨k4, k5, k6, k7⟩ | exact ⟨k5, k6, k7, k8⟩ | exact ⟨k6, k7, k8, k9⟩ | exact ⟨k7, k8, k9, k10⟩ | exact ⟨k8, k9, k10, k11⟩) ?_
            simp only [Act.put, List.setIfInBounds_toArray, List.set_cons_succ, List.set_cons_zero]
            go_big_quiet_on)
         | (refine quiet_load_W rfl rfl (fun w' hC => by obtain ⟨k0, k1, k2, k3, k4, k5, k6, k7, k8, k9, k10, k11, k12, k13⟩ := hC; first | exact k0 | exact k1 | exact k2 | exact k3 | exact k4 | exact k5 | exact k6 | exact k7 | exact k8 | exact k9 | exact k10 | exact k11) ?_
            simp only [Act.put, List.setIfInBounds_toArray, List.set_cons_succ, List.set_cons_zero]
            go_big_quiet_on)
         | (go_big_quiet_op
            first
              | go_big_quiet_on
              | (apply Exists.intro
                 refine ⟨fun w' hC => ?_, ?_⟩
                 · (first | (go_at_call 68; (with_reducible refine (join_c' _ _ _ _ _).mono ?_); rintro e w1 ⟨rfl, hb1⟩) | (go_at_call 69; (with_reducible refine (sjoin_c' _ _ _ _ _).mono ?_); rintro e w1 ⟨rfl, hb1⟩) | (go_at_call 67; (with_reducible refine (fsettled_c' _ _ _ _ _).mono ?_); rintro e w1 ⟨rfl, hb1⟩))
                   (try simp only [Tn.eta, Sp.eta, Fa.eta])
                   exact ⟨rfl, by first | exact hC | exact FJoinC_keep _ _ hC hb1⟩
                 go_big_quiet_on))))
  refine wpQuiet_nil ?_
  intro w9 hC
  obtain ⟨k0, k1, k2, k3, k4, k5, k6, k7, k8, k9, k10, k11, k12, k13⟩ := hC
  have z0 := cell_lt k0
  have z4 := cell_lt k4
  have z8 := cell_lt k8
  go_wp2
  refine bodyPost_ret ?_ rfl ⟨rfl, (by repeat' (first | (with_reducible exact Below.refl _ _) | (with_reducible assumption) | (with_reducible refine Below.alloc ?_ ?_ _) | (with_reducible refine Below.setCell ?_ ?_ _) | (with_reducible refine Below.drew ?_) | (with_reducible refine below_dn ?_ _) | (with_reducible refine Below.trans ?_ (Below.mono (by assumption) ?_)) | go_size))⟩
  simp only [results, Try.results32]; simp [*, go_sem, ↓IntWalk.iteOmega]; try (first | rfl | exact ⟨rfl, rfl⟩)

theorem fjoin_c (a b : Fa) (w : World) : Calls Try.prog 32 #[.agg #[.int .u64 (N a.t.v), .int .u64 (N a.t.m), .int .u64 (N a.s.lo), .int .u64 (N a.s.hi)], .agg #[.int .u64 (N b.t.v), .int .u64 (N b.t.m), .int .u64 (N b.s.lo), .int .u64 (N b.s.hi)]] w fun e w' => e = .returned (.agg #[.int .u64 (N (Fa.join a b).t.v), .int .u64 (N (Fa.join a b).t.m), .int .u64 (N (Fa.join a b).s.lo), .int .u64 (N (Fa.join a b).s.hi)]) ∧ Below w.heap.size w w' := by
  cases h1 : Fa.ok a
  · exact fjoin_no1 a b h1 w
  cases h2 : Fa.ok b
  · exact fjoin_no2 a b h1 h2 w
  exact fjoin_yes a b h1 h2 w

theorem fjoin_c' (x0 y0 z0 u0 : BitVec 64) (x1 y1 z1 u1 : BitVec 64) (w : World) : Calls Try.prog 32 #[.agg #[.int .u64 (N x0), .int .u64 (N y0), .int .u64 (N z0), .int .u64 (N u0)], .agg #[.int .u64 (N x1), .int .u64 (N y1), .int .u64 (N z1), .int .u64 (N u1)]] w fun e w' => e = .returned (.agg #[.int .u64 (N (Fa.join (⟨⟨x0, y0⟩, ⟨z0, u0⟩⟩ : Fa) (⟨⟨x1, y1⟩, ⟨z1, u1⟩⟩ : Fa)).t.v), .int .u64 (N (Fa.join (⟨⟨x0, y0⟩, ⟨z0, u0⟩⟩ : Fa) (⟨⟨x1, y1⟩, ⟨z1, u1⟩⟩ : Fa)).t.m), .int .u64 (N (Fa.join (⟨⟨x0, y0⟩, ⟨z0, u0⟩⟩ : Fa) (⟨⟨x1, y1⟩, ⟨z1, u1⟩⟩ : Fa)).s.lo), .int .u64 (N (Fa.join (⟨⟨x0, y0⟩, ⟨z0, u0⟩⟩ : Fa) (⟨⟨x1, y1⟩, ⟨z1, u1⟩⟩ : Fa)).s.hi)]) ∧ Below w.heap.size w w' := by
  exact fjoin_c (⟨⟨x0, y0⟩, ⟨z0, u0⟩⟩ : Fa) (⟨⟨x1, y1⟩, ⟨z1, u1⟩⟩ : Fa) w

def FCutC (f z : Fa) (s : Sp) (w wR : World) (w' : World) : Prop := w'.cell? ⟨w.heap.size, 0, none⟩ = some (.int .u64 (N f.t.v)) ∧ w'.cell? ⟨w.heap.size, 1, none⟩ = some (.int .u64 (N f.t.m)) ∧ w'.cell? ⟨w.heap.size, 2, none⟩ = some (.int .u64 (N f.s.lo)) ∧ w'.cell? ⟨w.heap.size, 3, none⟩ = some (.int .u64 (N f.s.hi)) ∧ w'.cell? ⟨w.heap.size + 1, 0, none⟩ = some (.int .u64 (N z.t.v)) ∧ w'.cell? ⟨w.heap.size + 1, 1, none⟩ = some (.int .u64 (N z.t.m)) ∧ w'.cell? ⟨w.heap.size + 1, 2, none⟩ = some (.int .u64 (N z.s.lo)) ∧ w'.cell? ⟨w.heap.size + 1, 3, none⟩ = some (.int .u64 (N z.s.hi)) ∧ w'.cell? ⟨wR.heap.size, 0, none⟩ = some (.int .u64 (N s.lo)) ∧ w'.cell? ⟨wR.heap.size, 1, none⟩ = some (.int .u64 (N s.hi)) ∧ (∀ i, w'.frozen? ⟨w.heap.size + 1, i, none⟩ = false) ∧ Below w.heap.size w w'
theorem FCutC_keep {f z : Fa} {s : Sp} {w wR : World} (w' w1 : World) (h : FCutC f z s w wR w') (hb : Below w'.heap.size w' w1) : FCutC f z s w wR w1 := by
  obtain ⟨k0, k1, k2, k3, k4, k5, k6, k7, k8, k9, k10, k11⟩ := h
  exact ⟨cell_keep hb k0, cell_keep hb k1, cell_keep hb k2, cell_keep hb k3, cell_keep hb k4, cell_keep hb k5, cell_keep hb k6, cell_keep hb k7, cell_keep hb k8, cell_keep hb k9, frozen_keep hb k4 k10, below_next k11 hb⟩

theorem fcut_no (f : Fa) (h1 : Fa.ok f = false) (w : World) : Calls Try.prog 33 #[.agg #[.int .u64 (N f.t.v), .int .u64 (N f.t.m), .int .u64 (N f.s.lo), .int .u64 (N f.s.hi)]] w fun e w' => e = .returned (.agg #[.int .u64 (N (Fa.cut f).t.v), .int .u64 (N (Fa.cut f).t.m), .int .u64 (N (Fa.cut f).s.lo), .int .u64 (N (Fa.cut f).s.hi)]) ∧ Below w.heap.size w w' := by
  rw [Fa.cut_no h1]
  go_enter Try.func33, Try.ntmps33
  go_wp2_with (first | (go_at_call 22; (with_reducible refine (fright_c' _ _ _ _ _).mono ?_); rintro e w1 ⟨rfl, hb1⟩; obtain ⟨hc1, hf1, hz1⟩ := bcell hb1; (try simp only [World.size_alloc, World.size_setCell, World.size_drew] at hc1 hf1 hz1)))
  refine bodyPost_ret ?_ rfl ⟨rfl, (by repeat' (first | (with_reducible exact Below.refl _ _) | (with_reducible assumption) | (with_reducible refine Below.alloc ?_ ?_ _) | (with_reducible refine Below.setCell ?_ ?_ _) | (with_reducible refine Below.drew ?_) | (with_reducible refine below_dn ?_ _) | (with_reducible refine Below.trans ?_ (Below.mono (by assumption) ?_)) | go_size))⟩
  simp only [results, Try.results33]; simp [*, go_sem, ↓IntWalk.iteOmega, Fa.zero]; try (first | rfl | exact ⟨rfl, rfl⟩)

set_option maxHeartbeats 1000000 in
theorem fcut_t (f : Fa) (h1 : Fa.ok f = true) (h2 : decide (4294967296#64 ≤ f.s.hi) = true) (w : World) : Calls Try.prog 33 #[.agg #[.int .u64 (N f.t.v), .int .u64 (N f.t.m), .int .u64 (N f.s.lo), .int .u64 (N f.s.hi)]] w fun e w' => e = .returned (.agg #[.int .u64 (N (Fa.cut f).t.v), .int .u64 (N (Fa.cut f).t.m), .int .u64 (N (Fa.cut f).s.lo), .int .u64 (N (Fa.cut f).s.hi)]) ∧ Below w.heap.size w w' := by
  rw [Fa.cut_t h1 h2]
  go_enter Try.func33, Try.ntmps33
  go_wp2_with fail
  refine (fright_c' _ _ _ _ _).mono ?_
  rintro e wR ⟨rfl, hbwR⟩
  obtain ⟨hcwR, hfwR, hzwR⟩ := bcell hbwR
  (try simp only [World.size_alloc, World.size_setCell, World.size_drew] at hcwR hfwR hzwR)
  go_wp2_with fail
  refine wp_region_class_tail (FCutC f Fa.zero ⟨0#64, 4294967295#64⟩ w wR) 5 (by kernel_rfl) (by kernel_rfl) ?_ ?_
  · refine ⟨?_, ?_, ?_, ?_, ?_, ?_, ?_, ?_, ?_, ?_, ?_, (by repeat' (first | (with_reducible exact Below.refl _ _) | (with_reducible assumption) | (with_reducible refine Below.alloc ?_ ?_ _) | (with_reducible refine Below.setCell ?_ ?_ _) | (with_reducible refine Below.drew ?_) | (with_reducible refine below_dn ?_ _) | (with_reducible refine Below.trans ?_ (Below.mono (by assumption) ?_)) | go_size))⟩
    all_goals first | (intro i; simp [*, go_sem, ↓IntWalk.iteOmega]; done) | (simp [*, go_sem, ↓IntWalk.iteOmega]; done)
  clear hbwR hcwR hfwR hzwR
  intro hN
  (try simp only [List.append])
  simp only [List.take_succ_cons, List.take_zero, List.drop_succ_cons, List.drop_zero]
  repeat (first
    | go_big_quiet_skip
    | (go_big_quiet_want
       first
         | (refine quiet_load_Tn rfl rfl (fun w' hC => by obtain ⟨k0, k1, k2, k3, k4, k5, k6, k7, k8, k9, k10, k11⟩ := hC; first | exact ⟨k0, k1⟩ | exact ⟨k1, k2⟩ | exact ⟨k2, k3⟩ | exact ⟨k3, k4⟩ | exact ⟨k4, k5⟩ | exact ⟨k5, k6⟩ | exact ⟨k6, k7⟩ | exact ⟨k7, k8⟩ | exact ⟨k8, k9⟩) ?_
            simp only [Act.put, List.setIfInBounds_toArray, List.set_cons_succ, List.set_cons_zero]
            go_big_quiet_on)
         | (refine quiet_load_Sp rfl rfl (fun w' hC => by obtain ⟨k0, k1, k2, k3, k4, k5, k6, k7, k8, k9, k10, k11⟩ := hC; first | exact ⟨k0, k1⟩ | exact ⟨k1, k2⟩ | exact ⟨k2, k3⟩ | exact ⟨k3, k4⟩ | exact ⟨k4, k5⟩ | exact ⟨k5, k6⟩ | exact ⟨k6, k7⟩ | exact ⟨k7, k8⟩ | exact ⟨k8, k9⟩) ?_
            simp only [Act.put, List.setIfInBounds_toArray, List.set_cons_succ, List.set_cons_zero]
            go_big_quiet_on)
         | (refine quiet_load_Fa rfl rfl (fun w' hC => by obtain ⟨k0, k1, k2, k3, k4, k5, k6, k7, k8, k9, k10, k11⟩ := hC; first | exact ⟨k0, k1, k2, k3⟩ | exact ⟨k1, k2, k3, k4⟩ | exact ⟨k2, k3, k4, k5⟩ | exact ⟨k3, k4, k5, k6⟩ | exact ⟨k4, k5, k6, k7⟩ | exact ⟨k5, k6, k7, k8⟩ | exact ⟨k6, k7, k8, k9⟩) ?_
            simp only [Act.put, List.setIfInBounds_toArray, List.set_cons_succ, List.set_cons_zero]
            go_big_quiet_on)
         | (refine quiet_load_W rfl rfl (fun w' hC => by obtain ⟨k0, k1, k2, k3, k4, k5, k6, k7, k8, k9, k10, k11⟩ := hC; first | exact k0 | exact k1 | exact k2 | exact k3 | exact k4 | exact k5 | exact k6 | exact k7 | exact k8 | exact k9) ?_
            simp only [Act.put, List.setIfInBounds_toArray, List.set_cons_succ, List.set_cons_zero]
            go_big_quiet_on)
         | (go_big_quiet_op
            first
              | go_big_quiet_on
              | (apply Exists.intro
                 refine ⟨fun w' hC => ?_, ?_⟩
                 · (first | (go_at_call 70; (with_reducible refine (cut_c' _ _ _ _).mono ?_); rintro e w1 ⟨rfl, hb1⟩) | (go_at_call 67; (with_reducible refine (fsettled_c' _ _ _ _ _).mono ?_); rintro e w1 ⟨rfl, hb1⟩))
                   (try simp only [Tn.eta, Sp.eta, Fa.eta])
                   exact ⟨rfl, by first | exact hC | exact FCutC_keep _ _ hC hb1⟩
                 go_big_quiet_on))))
  refine wpQuiet_nil ?_
  intro w9 hC
  obtain ⟨k0, k1, k2, k3, k4, k5, k6, k7, k8, k9, k10, k11⟩ := hC
  have z0 := cell_lt k0
  have z4 := cell_lt k4
  have z8 := cell_lt k8
  go_wp2
  refine bodyPost_ret ?_ rfl ⟨rfl, (by repeat' (first | (with_reducible exact Below.refl _ _) | (with_reducible assumption) | (with_reducible refine Below.alloc ?_ ?_ _) | (with_reducible refine Below.setCell ?_ ?_ _) | (with_reducible refine Below.drew ?_) | (with_reducible refine below_dn ?_ _) | (with_reducible refine Below.trans ?_ (Below.mono (by assumption) ?_)) | go_size))⟩
  simp only [results, Try.results33]; simp [*, go_sem, ↓IntWalk.iteOmega]; try (first | rfl | exact ⟨rfl, rfl⟩)

set_option maxHeartbeats 1000000 in
theorem fcut_f (f : Fa) (h1 : Fa.ok f = true) (h2 : decide (4294967296#64 ≤ f.s.hi) = false) (w : World) : Calls Try.prog 33 #[.agg #[.int .u64 (N f.t.v), .int .u64 (N f.t.m), .int .u64 (N f.s.lo), .int .u64 (N f.s.hi)]] w fun e w' => e = .returned (.agg #[.int .u64 (N (Fa.cut f).t.v), .int .u64 (N (Fa.cut f).t.m), .int .u64 (N (Fa.cut f).s.lo), .int .u64 (N (Fa.cut f).s.hi)]) ∧ Below w.heap.size w w' := by
  rw [Fa.cut_f h1 h2]
  go_enter Try.func33, Try.ntmps33
  go_wp2_with fail
  refine (fright_c' _ _ _ _ _).mono ?_
  rintro e wR ⟨rfl, hbwR⟩
  obtain ⟨hcwR, hfwR, hzwR⟩ := bcell hbwR
  (try simp only [World.size_alloc, World.size_setCell, World.size_drew] at hcwR hfwR hzwR)
  go_wp2_with fail
  refine wp_region_class_tail (FCutC f Fa.zero f.s w wR) 5 (by kernel_rfl) (by kernel_rfl) ?_ ?_
  · refine ⟨?_, ?_, ?_, ?_, ?_, ?_, ?_, ?_, ?_, ?_, ?_, (by repeat' (first | (with_reducible exact Below.refl _ _) | (with_reducible assumption) | (with_reducible refine Below.alloc ?_ ?_ _) | (with_reducible refine Below.setCell ?_ ?_ _) | (with_reducible refine Below.drew ?_) | (with_reducible refine below_dn ?_ _) | (with_reducible refine Below.trans ?_ (Below.mono (by assumption) ?_)) | go_size))⟩
    all_goals first | (intro i; simp [*, go_sem, ↓IntWalk.iteOmega]; done) | (simp [*, go_sem, ↓IntWalk.iteOmega]; done)
  clear hbwR hcwR hfwR hzwR
  intro hN
  (try simp only [List.append])
  simp only [List.take_succ_cons, List.take_zero, List.drop_succ_cons, List.drop_zero]
  repeat (first
    | go_big_quiet_skip
    | (go_big_quiet_want
       first
         | (refine quiet_load_Tn rfl rfl (fun w' hC => by obtain ⟨k0, k1, k2, k3, k4, k5, k6, k7, k8, k9, k10, k11⟩ := hC; first | exact ⟨k0, k1⟩ | exact ⟨k1, k2⟩ | exact ⟨k2, k3⟩ | exact ⟨k3, k4⟩ | exact ⟨k4, k5⟩ | exact ⟨k5, k6⟩ | exact ⟨k6, k7⟩ | exact ⟨k7, k8⟩ | exact ⟨k8, k9⟩) ?_
            simp only [Act.put, List.setIfInBounds_toArray, List.set_cons_succ, List.set_cons_zero]
            go_big_quiet_on)
         | (refine quiet_load_Sp rfl rfl (fun w' hC => by obtain ⟨k0, k1, k2, k3, k4, k5, k6, k7, k8, k9, k10, k11⟩ := hC; first | exact ⟨k0, k1⟩ | exact ⟨k1, k2⟩ | exact ⟨k2, k3⟩ | exact ⟨k3, k4⟩ | exact ⟨k4, k5⟩ | exact ⟨k5, k6⟩ | exact ⟨k6, k7⟩ | exact ⟨k7, k8⟩ | exact ⟨k8, k9⟩) ?_
            simp only [Act.put, List.setIfInBounds_toArray, List.set_cons_succ, List.set_cons_zero]
            go_big_quiet_on)
         | (refine quiet_load_Fa rfl rfl (fun w' hC => by obtain ⟨k0, k1, k2, k3, k4, k5, k6, k7, k8, k9, k10, k11⟩ := hC; first | exact ⟨k0, k1, k2, k3⟩ | exact ⟨k1, k2, k3, k4⟩ | exact ⟨k2, k3, k4, k5⟩ | exact ⟨k3, k4, k5, k6⟩ | exact ⟨k4, k5, k6, k7⟩ | exact ⟨k5, k6, k7, k8⟩ | exact ⟨k6, k7, k8, k9⟩) ?_
            simp only [Act.put, List.setIfInBounds_toArray, List.set_cons_succ, List.set_cons_zero]
            go_big_quiet_on)
         | (refine quiet_load_W rfl rfl (fun w' hC => by obtain ⟨k0, k1, k2, k3, k4, k5, k6, k7, k8, k9, k10, k11⟩ := hC; first | exact k0 | exact k1 | exact k2 | exact k3 | exact k4 | exact k5 | exact k6 | exact k7 | exact k8 | exact k9) ?_
            simp only [Act.put, List.setIfInBounds_toArray, List.set_cons_succ, List.set_cons_zero]
            go_big_quiet_on)
         | (go_big_quiet_op
            first
              | go_big_quiet_on
              | (apply Exists.intro
                 refine ⟨fun w' hC => ?_, ?_⟩
                 · (first | (go_at_call 70; (with_reducible refine (cut_c' _ _ _ _).mono ?_); rintro e w1 ⟨rfl, hb1⟩) | (go_at_call 67; (with_reducible refine (fsettled_c' _ _ _ _ _).mono ?_); rintro e w1 ⟨rfl, hb1⟩))
                   (try simp only [Tn.eta, Sp.eta, Fa.eta])
                   exact ⟨rfl, by first | exact hC | exact FCutC_keep _ _ hC hb1⟩
                 go_big_quiet_on))))
  refine wpQuiet_nil ?_
  intro w9 hC
  obtain ⟨k0, k1, k2, k3, k4, k5, k6, k7, k8, k9, k10, k11⟩ := hC
  have z0 := cell_lt k0
  have z4 := cell_lt k4
  have z8 := cell_lt k8
  go_wp2
  refine bodyPost_ret ?_ rfl ⟨rfl, (by repeat' (first | (with_reducible exact Below.refl _ _) | (with_reducible assumption) | (with_reducible refine Below.alloc ?_ ?_ _) | (with_reducible refine Below.setCell ?_ ?_ _) | (with_reducible refine Below.drew ?_) | (with_reducible refine below_dn ?_ _) | (with_reducible refine Below.trans ?_ (Below.mono (by assumption) ?_)) | go_size))⟩
  simp only [results, Try.results33]; simp [*, go_sem, ↓IntWalk.iteOmega]; try (first | rfl | exact ⟨rfl, rfl⟩)

theorem fcut_c (f : Fa) (w : World) : Calls Try.prog 33 #[.agg #[.int .u64 (N f.t.v), .int .u64 (N f.t.m), .int .u64 (N f.s.lo), .int .u64 (N f.s.hi)]] w fun e w' => e = .returned (.agg #[.int .u64 (N (Fa.cut f).t.v), .int .u64 (N (Fa.cut f).t.m), .int .u64 (N (Fa.cut f).s.lo), .int .u64 (N (Fa.cut f).s.hi)]) ∧ Below w.heap.size w w' := by
  cases h1 : Fa.ok f
  · exact fcut_no f h1 w
  cases h2 : decide (4294967296#64 ≤ f.s.hi)
  · exact fcut_f f h1 h2 w
  exact fcut_t f h1 h2 w

theorem fcut_c' (x0 y0 z0 u0 : BitVec 64) (w : World) : Calls Try.prog 33 #[.agg #[.int .u64 (N x0), .int .u64 (N y0), .int .u64 (N z0), .int .u64 (N u0)]] w fun e w' => e = .returned (.agg #[.int .u64 (N (Fa.cut (⟨⟨x0, y0⟩, ⟨z0, u0⟩⟩ : Fa)).t.v), .int .u64 (N (Fa.cut (⟨⟨x0, y0⟩, ⟨z0, u0⟩⟩ : Fa)).t.m), .int .u64 (N (Fa.cut (⟨⟨x0, y0⟩, ⟨z0, u0⟩⟩ : Fa)).s.lo), .int .u64 (N (Fa.cut (⟨⟨x0, y0⟩, ⟨z0, u0⟩⟩ : Fa)).s.hi)]) ∧ Below w.heap.size w w' := by
  exact fcut_c (⟨⟨x0, y0⟩, ⟨z0, u0⟩⟩ : Fa) w

end Hk
