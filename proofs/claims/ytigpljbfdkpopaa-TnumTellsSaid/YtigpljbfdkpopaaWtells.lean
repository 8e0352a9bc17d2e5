/- The statement TnumTells of the Go text: it returns true, and old memory is as it was. No condition. -/
import Derived.Test.YtigpljbfdkpopaaProg
import Derived.Test.YtigpljbfdkpopaaWd
import Derived.Test.YtigpljbfdkpopaaLw4
import Derived.Test.YtigpljbfdkpopaaLd
import Derived.Test.YtigpljbfdkpopaaCr3
import Derived.Test.YtigpljbfdkpopaaCr4
import Derived.Test.YtigpljbfdkpopaaCr5
import Derived.Test.YtigpljbfdkpopaaCr6
import Derived.Test.YtigpljbfdkpopaaKp
namespace Hk
open Go Go.RowKit Go.Proofs
set_option linter.unusedSimpArgs false
set_option linter.unusedVariables false
set_option maxRecDepth 100000
def TellC (a b t : Tn) (w wA wB : World) (w' : World) : Prop := w'.cell? ⟨w.heap.size, 0, none⟩ = some (.int .u64 (N a.v)) ∧ w'.cell? ⟨w.heap.size, 1, none⟩ = some (.int .u64 (N a.m)) ∧ w'.cell? ⟨w.heap.size + 1, 0, none⟩ = some (.int .u64 (N b.v)) ∧ w'.cell? ⟨w.heap.size + 1, 1, none⟩ = some (.int .u64 (N b.m)) ∧ w'.cell? ⟨wA.heap.size, 0, none⟩ = some (.int .u64 (N t.v)) ∧ w'.cell? ⟨wA.heap.size, 1, none⟩ = some (.int .u64 (N t.m)) ∧ w'.cell? ⟨wB.heap.size, 0, none⟩ = some (.int .u64 (N t.v)) ∧ w'.cell? ⟨wB.heap.size, 1, none⟩ = some (.int .u64 (N t.m)) ∧ Below w.heap.size w w'
theorem TellC_keep {a b t : Tn} {w wA wB : World} (w' w1 : World) (h : TellC a b t w wA wB w') (hb : Below w'.heap.size w' w1) : TellC a b t w wA wB w1 := by
  obtain ⟨k0, k1, k2, k3, k4, k5, k6, k7, k8⟩ := h
  exact ⟨cell_keep hb k0, cell_keep hb k1, cell_keep hb k2, cell_keep hb k3, cell_keep hb k4, cell_keep hb k5, cell_keep hb k6, cell_keep hb k7, below_next k8 hb⟩

set_option maxHeartbeats 4000000 in
theorem tnumTells_walk (a b : Tn) (n : BitVec 64) (k : Int) (hk : -9223372036854775808 ≤ k ∧ k ≤ 9223372036854775807) (w : World) : Calls Try.prog 8 #[.agg #[.int .u64 (N a.v), .int .u64 (N a.m)], .agg #[.int .u64 (N b.v), .int .u64 (N b.m)], .int .u64 (N n), .int .i64 k] w fun e w' => e = .returned (.bool true) ∧ Below w.heap.size w w' := by
  clear hk
  go_enter Try.func8, Try.ntmps8
  go_wp2_with fail
  refine (meet_c _ _ _).mono ?_
  rintro e wA ⟨rfl, hbwA⟩
  obtain ⟨hcwA, hfwA, hzwA⟩ := bcell hbwA
  (try simp only [World.size_alloc, World.size_setCell, World.size_drew] at hcwA hfwA hzwA)
  go_wp2_with fail
  refine (r_meet_c _ _ _).mono ?_
  rintro e wB ⟨rfl, hbwB⟩
  obtain ⟨hcwB, hfwB, hzwB⟩ := bcell hbwB
  (try simp only [World.size_alloc, World.size_setCell, World.size_drew] at hcwB hfwB hzwB)
  go_wp2_with fail
  refine wp_region_class (TellC a b (Tn.meet a b) w wA wB) (by kernel_rfl) (by kernel_rfl) ?_ ?_
  · refine ⟨?_, ?_, ?_, ?_, ?_, ?_, ?_, ?_, (by repeat' (first | (with_reducible exact Below.refl _ _) | (with_reducible assumption) | (with_reducible refine Below.alloc ?_ ?_ _) | (with_reducible refine Below.setCell ?_ ?_ _) | (with_reducible refine Below.drew ?_) | (with_reducible refine Below.trans ?_ (Below.mono (by assumption) ?_)) | go_size))⟩
    all_goals first | (intro i; simp [*, go_sem, ↓IntWalk.iteOmega]; done) | (simp [*, go_sem, ↓IntWalk.iteOmega]; done)
  clear hbwA hcwA hfwA hzwA hbwB hcwB hfwB hzwB
  intro hN
  repeat (first
    | go_big_quiet_skip
    | (go_big_quiet_want
       first
         | (refine quiet_loadT rfl rfl (fun w' hC => by obtain ⟨k0, k1, k2, k3, k4, k5, k6, k7, k8⟩ := hC; first | exact ⟨k0, k1⟩ | exact ⟨k2, k3⟩ | exact ⟨k4, k5⟩ | exact ⟨k6, k7⟩) ?_
            simp only [Act.put, List.setIfInBounds_toArray, List.set_cons_succ, List.set_cons_zero]
            go_big_quiet_on)
         | (refine quiet_loadW rfl rfl (fun w' hC => by obtain ⟨k0, k1, k2, k3, k4, k5, k6, k7, k8⟩ := hC; first | exact k0 | exact k1 | exact k2 | exact k3 | exact k4 | exact k5 | exact k6 | exact k7) ?_
            simp only [Act.put, List.setIfInBounds_toArray, List.set_cons_succ, List.set_cons_zero]
            go_big_quiet_on)
         | (go_big_quiet_op
            first
              | go_big_quiet_on
              | (apply Exists.intro
                 refine ⟨fun w' hC => ?_, ?_⟩
                 · (first | (go_at_call 12; (with_reducible refine (shown_c _).mono ?_); rintro e w1 ⟨rfl, hb1⟩) | (go_at_call 15; (with_reducible refine (right_c ⟨_, _⟩ _).mono ?_); rintro e w1 ⟨rfl, hb1⟩) | (go_at_call 23; (with_reducible refine (r_right_c ⟨_, _⟩ _).mono ?_); rintro e w1 ⟨rfl, hb1⟩) | (go_at_call 20; (with_reducible refine (of_c _ _).mono ?_); rintro e w1 ⟨rfl, hb1⟩) | (go_at_call 16; (with_reducible refine (has_c ⟨_, _⟩ _ _).mono ?_); rintro e w1 ⟨rfl, hb1⟩) | (go_at_call 24; (with_reducible refine (r_has_c ⟨_, _⟩ _ _).mono ?_); rintro e w1 ⟨rfl, hb1⟩) | (go_at_call 18; (with_reducible refine (within_c ⟨_, _⟩ ⟨_, _⟩ _).mono ?_); rintro e w1 ⟨rfl, hb1⟩) | (go_at_call 25; (with_reducible refine (r_within_c ⟨_, _⟩ ⟨_, _⟩ _).mono ?_); rintro e w1 ⟨rfl, hb1⟩) | (go_at_call 17; (with_reducible refine (join_c ⟨_, _⟩ ⟨_, _⟩ _).mono ?_); rintro e w1 ⟨rfl, hb1⟩) | (go_at_call 26; (with_reducible refine (r_join_c ⟨_, _⟩ ⟨_, _⟩ _).mono ?_); rintro e w1 ⟨rfl, hb1⟩) | (go_at_call 21; (with_reducible refine (cut_c ⟨_, _⟩ _ _).mono ?_); rintro e w1 ⟨rfl, hb1⟩) | (go_at_call 27; (with_reducible refine (r_cut_c ⟨_, _⟩ _ _).mono ?_); rintro e w1 ⟨rfl, hb1⟩))
                   (try simp only [Tn.eta, Tn.of])
                   exact ⟨rfl, by first | exact hC | exact TellC_keep _ _ hC hb1⟩
                 go_big_quiet_on))))
  refine wpQuiet_nil ?_
  intro w9 hC
  obtain ⟨k0, k1, k2, k3, k4, k5, k6, k7, k8⟩ := hC
  have z0 := cell_lt k0
  have z2 := cell_lt k2
  have z4 := cell_lt k4
  have z6 := cell_lt k6
  go_wp2
  go_ret
  exact ⟨rfl, k8⟩

end Hk
