/- The statement FactSettles of the Go text: it returns true, and old memory is as it was. No condition. -/
import Derived.Test.YtmhkngblpojeaaaProg
import Derived.Test.YtmhkngblpojeaaaGp
import Derived.Test.YtmhkngblpojeaaaFl1
import Derived.Test.YtmhkngblpojeaaaGl
namespace Hk
open Go Go.RowKit Go.Proofs
set_option linter.unusedSimpArgs false
set_option linter.unusedVariables false
set_option maxRecDepth 100000
attribute [go_sem] Tn.eta
def FSettlesC (f g : Fa) (w wA wB : World) (w' : World) : Prop := w'.cell? ⟨w.heap.size, 0, none⟩ = some (.int .u64 (N f.t.v)) ∧ w'.cell? ⟨w.heap.size, 1, none⟩ = some (.int .u64 (N f.t.m)) ∧ w'.cell? ⟨w.heap.size, 2, none⟩ = some (.int .u64 (N f.s.lo)) ∧ w'.cell? ⟨w.heap.size, 3, none⟩ = some (.int .u64 (N f.s.hi)) ∧ w'.cell? ⟨wA.heap.size, 0, none⟩ = some (.int .u64 (N g.t.v)) ∧ w'.cell? ⟨wA.heap.size, 1, none⟩ = some (.int .u64 (N g.t.m)) ∧ w'.cell? ⟨wA.heap.size, 2, none⟩ = some (.int .u64 (N g.s.lo)) ∧ w'.cell? ⟨wA.heap.size, 3, none⟩ = some (.int .u64 (N g.s.hi)) ∧ w'.cell? ⟨wB.heap.size, 0, none⟩ = some (.int .u64 (N g.t.v)) ∧ w'.cell? ⟨wB.heap.size, 1, none⟩ = some (.int .u64 (N g.t.m)) ∧ w'.cell? ⟨wB.heap.size, 2, none⟩ = some (.int .u64 (N g.s.lo)) ∧ w'.cell? ⟨wB.heap.size, 3, none⟩ = some (.int .u64 (N g.s.hi)) ∧ Below w.heap.size w w'
theorem FSettlesC_keep {f g : Fa} {w wA wB : World} (w' w1 : World) (h : FSettlesC f g w wA wB w') (hb : Below w'.heap.size w' w1) : FSettlesC f g w wA wB w1 := by
  obtain ⟨k0, k1, k2, k3, k4, k5, k6, k7, k8, k9, k10, k11, k12⟩ := h
  exact ⟨cell_keep hb k0, cell_keep hb k1, cell_keep hb k2, cell_keep hb k3, cell_keep hb k4, cell_keep hb k5, cell_keep hb k6, cell_keep hb k7, cell_keep hb k8, cell_keep hb k9, cell_keep hb k10, cell_keep hb k11, below_next k12 hb⟩

set_option maxHeartbeats 2000000 in
theorem factSettles_walk (f : Fa) (n : BitVec 64) (w : World) : Calls Try.prog 5 #[.agg #[.int .u64 (N f.t.v), .int .u64 (N f.t.m), .int .u64 (N f.s.lo), .int .u64 (N f.s.hi)], .int .u64 (N n)] w fun e w' => e = .returned (.bool true) ∧ Below w.heap.size w w' := by
  go_enter Try.func5, Try.ntmps5
  go_wp2_with fail
  refine (settle_c' _ _ _ _ _).mono ?_
  rintro e wA ⟨rfl, hbwA⟩
  obtain ⟨hcwA, hfwA, hzwA⟩ := bcell hbwA
  (try simp only [World.size_alloc, World.size_setCell, World.size_drew] at hcwA hfwA hzwA)
  go_wp2_with fail
  refine (rsettle_c' _ _ _ _ _).mono ?_
  rintro e wB ⟨rfl, hbwB⟩
  obtain ⟨hcwB, hfwB, hzwB⟩ := bcell hbwB
  (try simp only [World.size_alloc, World.size_setCell, World.size_drew] at hcwB hfwB hzwB)
  go_wp2_with fail
  refine (fknown_c' _ _ _ _ _).mono ?_
  rintro e wC ⟨rfl, hbwC⟩
  obtain ⟨hcwC, hfwC, hzwC⟩ := bcell hbwC
  (try simp only [World.size_alloc, World.size_setCell, World.size_drew] at hcwC hfwC hzwC)
  go_wp2_with fail
  refine (rfknown_c' _ _ _ _ _).mono ?_
  rintro e wD ⟨rfl, hbwD⟩
  obtain ⟨hcwD, hfwD, hzwD⟩ := bcell hbwD
  (try simp only [World.size_alloc, World.size_setCell, World.size_drew] at hcwD hfwD hzwD)
  go_wp2_with fail
  refine wp_region_class (FSettlesC f ((Fa.settle f).getD Fa.zero) w wA wB) (by kernel_rfl) (by kernel_rfl) ?_ ?_
  · refine ⟨?_, ?_, ?_, ?_, ?_, ?_, ?_, ?_, ?_, ?_, ?_, ?_, (by repeat' (first | (with_reducible exact Below.refl _ _) | (with_reducible assumption) | (with_reducible refine Below.alloc ?_ ?_ _) | (with_reducible refine Below.setCell ?_ ?_ _) | (with_reducible refine Below.drew ?_) | (with_reducible refine below_dn ?_ _) | (with_reducible refine Below.trans ?_ (Below.mono (by assumption) ?_)) | go_size))⟩
    all_goals first | (intro i; simp [*, go_sem, ↓IntWalk.iteOmega]; done) | (simp [*, go_sem, ↓IntWalk.iteOmega]; done)
  clear hbwA hcwA hfwA hzwA hbwB hcwB hfwB hzwB hbwC hcwC hfwC hzwC hbwD hcwD hfwD hzwD
  intro hN
  (try simp only [List.append])
  repeat (first
    | go_big_quiet_skip
    | (go_big_quiet_want
       first
         | (refine quiet_load_Fa rfl rfl (fun w' hC => by obtain ⟨k0, k1, k2, k3, k4, k5, k6, k7, k8, k9, k10, k11, k12⟩ := hC; first | exact ⟨k0, k1, k2, k3⟩ | exact ⟨k1, k2, k3, k4⟩ | exact ⟨k2, k3, k4, k5⟩ | exact ⟨k3, k4, k5, k6⟩ | exact ⟨k4, k5, k6, k7⟩ | exact ⟨k5, k6, k7, k8⟩ | exact ⟨k6, k7, k8, k9⟩ | exact ⟨k7, k8, k9, k10⟩ | exact ⟨k8, k9, k10, k11⟩) ?_
            simp only [Act.put, List.setIfInBounds_toArray, List.set_cons_succ, List.set_cons_zero]
            go_big_quiet_on)
         | (refine quiet_load_W rfl rfl (fun w' hC => by obtain ⟨k0, k1, k2, k3, k4, k5, k6, k7, k8, k9, k10, k11, k12⟩ := hC; first | exact k0 | exact k1 | exact k2 | exact k3 | exact k4 | exact k5 | exact k6 | exact k7 | exact k8 | exact k9 | exact k10 | exact k11) ?_
            simp only [Act.put, List.setIfInBounds_toArray, List.set_cons_succ, List.set_cons_zero]
            go_big_quiet_on)
         | (go_big_quiet_op
            first
              | go_big_quiet_on
              | (apply Exists.intro
                 refine ⟨fun w' hC => ?_, ?_⟩
                 · (first | (go_at_call 12; (with_reducible refine (fshown_c _).mono ?_); rintro e w1 ⟨rfl, hb1⟩) | (go_at_call 25; (with_reducible refine (fany_c _).mono ?_); rintro e w1 ⟨rfl, hb1⟩) | (go_at_call 26; (with_reducible refine (rfany_c _).mono ?_); rintro e w1 ⟨rfl, hb1⟩) | (go_at_call 22; (with_reducible refine (fright_c' _ _ _ _ _).mono ?_); rintro e w1 ⟨rfl, hb1⟩) | (go_at_call 27; (with_reducible refine (fhas_c' _ _ _ _ _ _).mono ?_); rintro e w1 ⟨rfl, hb1⟩) | (go_at_call 17; (with_reducible refine (fof_c' _ _).mono ?_); rintro e w1 ⟨rfl, hb1⟩) | (go_at_call 23; (with_reducible refine (rfright_c' _ _ _ _ _).mono ?_); rintro e w1 ⟨rfl, hb1⟩) | (go_at_call 28; (with_reducible refine (rfhas_c' _ _ _ _ _ _).mono ?_); rintro e w1 ⟨rfl, hb1⟩) | (go_at_call 24; (with_reducible refine (rfof_c' _ _).mono ?_); rintro e w1 ⟨rfl, hb1⟩))
                   (try simp only [Tn.eta, Sp.eta, Fa.eta])
                   exact ⟨rfl, by first | exact hC | exact FSettlesC_keep _ _ hC hb1⟩
                 go_big_quiet_on))))
  refine wpQuiet_nil ?_
  intro w9 hC
  obtain ⟨k0, k1, k2, k3, k4, k5, k6, k7, k8, k9, k10, k11, k12⟩ := hC
  have z0 := cell_lt k0
  have z4 := cell_lt k4
  have z8 := cell_lt k8
  go_wp2
  go_ret
  exact ⟨rfl, k12⟩

end Hk
