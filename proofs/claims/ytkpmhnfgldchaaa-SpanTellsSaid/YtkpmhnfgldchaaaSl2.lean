/- The statement SpanTells of the Go text: it returns true, and old memory is as it was. No condition. -/
import Derived.Test.YtkpmhnfgldchaaaProg
import Derived.Test.YtkpmhnfgldchaaaWd
import Derived.Test.YtkpmhnfgldchaaaSl1
import Derived.Test.YtkpmhnfgldchaaaLdsp
import Derived.Test.YtkpmhnfgldchaaaSr1
import Derived.Test.YtkpmhnfgldchaaaKp
namespace Hk
open Go Go.RowKit Go.Proofs
set_option linter.unusedSimpArgs false
set_option linter.unusedVariables false
set_option maxRecDepth 100000
def STellC (a b t : Sp) (w wA wB : World) (w' : World) : Prop := w'.cell? ⟨w.heap.size, 0, none⟩ = some (.int .u64 (N a.lo)) ∧ w'.cell? ⟨w.heap.size, 1, none⟩ = some (.int .u64 (N a.hi)) ∧ w'.cell? ⟨w.heap.size + 1, 0, none⟩ = some (.int .u64 (N b.lo)) ∧ w'.cell? ⟨w.heap.size + 1, 1, none⟩ = some (.int .u64 (N b.hi)) ∧ w'.cell? ⟨wA.heap.size, 0, none⟩ = some (.int .u64 (N t.lo)) ∧ w'.cell? ⟨wA.heap.size, 1, none⟩ = some (.int .u64 (N t.hi)) ∧ w'.cell? ⟨wB.heap.size, 0, none⟩ = some (.int .u64 (N t.lo)) ∧ w'.cell? ⟨wB.heap.size, 1, none⟩ = some (.int .u64 (N t.hi)) ∧ Below w.heap.size w w'
theorem STellC_keep {a b t : Sp} {w wA wB : World} (w' w1 : World) (h : STellC a b t w wA wB w') (hb : Below w'.heap.size w' w1) : STellC a b t w wA wB w1 := by
  obtain ⟨k0, k1, k2, k3, k4, k5, k6, k7, k8⟩ := h
  exact ⟨cell_keep hb k0, cell_keep hb k1, cell_keep hb k2, cell_keep hb k3, cell_keep hb k4, cell_keep hb k5, cell_keep hb k6, cell_keep hb k7, below_next k8 hb⟩

set_option maxHeartbeats 4000000 in
theorem spanTells_walk (a b : Sp) (n : BitVec 64) (w : World) : Calls Try.prog 6 #[.agg #[.int .u64 (N a.lo), .int .u64 (N a.hi)], .agg #[.int .u64 (N b.lo), .int .u64 (N b.hi)], .int .u64 (N n)] w fun e w' => e = .returned (.bool true) ∧ Below w.heap.size w w' := by
  go_enter Try.func6, Try.ntmps6
  go_wp2_with fail
  refine (smeet_c _ _ _).mono ?_
  rintro e wA ⟨rfl, hbwA⟩
  obtain ⟨hcwA, hfwA, hzwA⟩ := bcell hbwA
  (try simp only [World.size_alloc, World.size_setCell, World.size_drew] at hcwA hfwA hzwA)
  go_wp2_with fail
  refine (rsmeet_c _ _ _).mono ?_
  rintro e wB ⟨rfl, hbwB⟩
  obtain ⟨hcwB, hfwB, hzwB⟩ := bcell hbwB
  (try simp only [World.size_alloc, World.size_setCell, World.size_drew] at hcwB hfwB hzwB)
  go_wp2_with fail
  refine wp_region_class (STellC a b (Sp.meet a b) w wA wB) (by kernel_rfl) (by kernel_rfl) ?_ ?_
  · refine ⟨?_, ?_, ?_, ?_, ?_, ?_, ?_, ?_, (by repeat' (first | (with_reducible exact Below.refl _ _) | (with_reducible assumption) | (with_reducible refine Below.alloc ?_ ?_ _) | (with_reducible refine Below.setCell ?_ ?_ _) | (with_reducible refine Below.drew ?_) | (with_reducible refine below_dn ?_ _) | (with_reducible refine Below.trans ?_ (Below.mono (by assumption) ?_)) | go_size))⟩
    all_goals first | (intro i; simp [*, go_sem, ↓IntWalk.iteOmega]; done) | (simp [*, go_sem, ↓IntWalk.iteOmega]; done)
  clear hbwA hcwA hfwA hzwA hbwB hcwB hfwB hzwB
  intro hN
  repeat (first
    | go_big_quiet_skip
    | (go_big_quiet_want
       first
         | (refine quiet_load_Sp rfl rfl (fun w' hC => by obtain ⟨k0, k1, k2, k3, k4, k5, k6, k7, k8⟩ := hC; first | exact ⟨k0, k1⟩ | exact ⟨k2, k3⟩ | exact ⟨k4, k5⟩ | exact ⟨k6, k7⟩) ?_
            simp only [Act.put, List.setIfInBounds_toArray, List.set_cons_succ, List.set_cons_zero]
            go_big_quiet_on)
         | (refine quiet_load_W rfl rfl (fun w' hC => by obtain ⟨k0, k1, k2, k3, k4, k5, k6, k7, k8⟩ := hC; first | exact k0 | exact k1 | exact k2 | exact k3 | exact k4 | exact k5 | exact k6 | exact k7) ?_
            simp only [Act.put, List.setIfInBounds_toArray, List.set_cons_succ, List.set_cons_zero]
            go_big_quiet_on)
         | (go_big_quiet_op
            first
              | go_big_quiet_on
              | (apply Exists.intro
                 refine ⟨fun w' hC => ?_, ?_⟩
                 · (first | (go_at_call 8; (with_reducible refine (sshown_c _).mono ?_); rintro e w1 ⟨rfl, hb1⟩) | (go_at_call 21; (with_reducible refine (sall_c _).mono ?_); rintro e w1 ⟨rfl, hb1⟩) | (go_at_call 22; (with_reducible refine (rsall_c _).mono ?_); rintro e w1 ⟨rfl, hb1⟩) | (go_at_call 19; (with_reducible refine (sright_c' _ _ _).mono ?_); rintro e w1 ⟨rfl, hb1⟩) | (go_at_call 20; (with_reducible refine (rsright_c' _ _ _).mono ?_); rintro e w1 ⟨rfl, hb1⟩) | (go_at_call 11; (with_reducible refine (shas_c' _ _ _ _).mono ?_); rintro e w1 ⟨rfl, hb1⟩) | (go_at_call 23; (with_reducible refine (rshas_c' _ _ _ _).mono ?_); rintro e w1 ⟨rfl, hb1⟩) | (go_at_call 16; (with_reducible refine (swithin_c' _ _ _ _ _).mono ?_); rintro e w1 ⟨rfl, hb1⟩) | (go_at_call 24; (with_reducible refine (rswithin_c' _ _ _ _ _).mono ?_); rintro e w1 ⟨rfl, hb1⟩) | (go_at_call 25; (with_reducible refine (sjoin_c' _ _ _ _ _).mono ?_); rintro e w1 ⟨rfl, hb1⟩) | (go_at_call 26; (with_reducible refine (rsjoin_c' _ _ _ _ _).mono ?_); rintro e w1 ⟨rfl, hb1⟩))
                   (try simp only [Sp.eta])
                   exact ⟨rfl, by first | exact hC | exact STellC_keep _ _ hC hb1⟩
                 go_big_quiet_on))))
  refine wpQuiet_nil ?_
  intro w9 hC
  obtain ⟨k0, k1, k2, k3, k4, k5, k6, k7, k8⟩ := hC
  have z0 := cell_lt k0
  have z2 := cell_lt k2
  have z4 := cell_lt k4
  have z6 := cell_lt k6
  go_wp2
  go_ret
  exact ⟨rfl, k8⟩

end Hk
