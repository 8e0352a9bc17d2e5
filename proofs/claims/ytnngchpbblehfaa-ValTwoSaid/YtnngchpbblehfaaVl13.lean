/- The statements ValTells and ValTwo of the Go text: they return true, and old memory is as it was. No condition but the bounds of the arguments' kinds. -/
import Derived.Test.YtnngchpbblehfaaProg
import Derived.Test.YtnngchpbblehfaaGp
import Derived.Test.YtnngchpbblehfaaVlLaw
import Derived.Test.YtnngchpbblehfaaVl5
import Derived.Test.YtnngchpbblehfaaVl11
import Derived.Test.YtnngchpbblehfaaVl12
import Derived.Test.YtnngchpbblehfaaGl
namespace Hk
open Go Go.RowKit Go.Proofs
set_option linter.unusedSimpArgs false
set_option linter.unusedVariables false
set_option maxRecDepth 100000
attribute [go_sem] Tn.eta Sp.eta Fa.eta Vl.eta
def VTellsC (v x : Vl) (f : Fa) (w wM wN : World) (w' : World) : Prop := w'.cell? ⟨w.heap.size, 0, none⟩ = some (.int .u8 v.k) ∧ w'.cell? ⟨w.heap.size, 1, none⟩ = some (.int .u64 (N v.f.t.v)) ∧ w'.cell? ⟨w.heap.size, 2, none⟩ = some (.int .u64 (N v.f.t.m)) ∧ w'.cell? ⟨w.heap.size, 3, none⟩ = some (.int .u64 (N v.f.s.lo)) ∧ w'.cell? ⟨w.heap.size, 4, none⟩ = some (.int .u64 (N v.f.s.hi)) ∧ w'.cell? ⟨w.heap.size, 5, none⟩ = some (.int .i64 v.i) ∧ w'.cell? ⟨w.heap.size, 6, none⟩ = some (.int .i64 v.off) ∧ w'.cell? ⟨w.heap.size + 1, 0, none⟩ = some (.int .u64 (N f.t.v)) ∧ w'.cell? ⟨w.heap.size + 1, 1, none⟩ = some (.int .u64 (N f.t.m)) ∧ w'.cell? ⟨w.heap.size + 1, 2, none⟩ = some (.int .u64 (N f.s.lo)) ∧ w'.cell? ⟨w.heap.size + 1, 3, none⟩ = some (.int .u64 (N f.s.hi)) ∧ w'.cell? ⟨wM.heap.size, 0, none⟩ = some (.int .u8 x.k) ∧ w'.cell? ⟨wM.heap.size, 1, none⟩ = some (.int .u64 (N x.f.t.v)) ∧ w'.cell? ⟨wM.heap.size, 2, none⟩ = some (.int .u64 (N x.f.t.m)) ∧ w'.cell? ⟨wM.heap.size, 3, none⟩ = some (.int .u64 (N x.f.s.lo)) ∧ w'.cell? ⟨wM.heap.size, 4, none⟩ = some (.int .u64 (N x.f.s.hi)) ∧ w'.cell? ⟨wM.heap.size, 5, none⟩ = some (.int .i64 x.i) ∧ w'.cell? ⟨wM.heap.size, 6, none⟩ = some (.int .i64 x.off) ∧ w'.cell? ⟨wN.heap.size, 0, none⟩ = some (.int .u8 x.k) ∧ w'.cell? ⟨wN.heap.size, 1, none⟩ = some (.int .u64 (N x.f.t.v)) ∧ w'.cell? ⟨wN.heap.size, 2, none⟩ = some (.int .u64 (N x.f.t.m)) ∧ w'.cell? ⟨wN.heap.size, 3, none⟩ = some (.int .u64 (N x.f.s.lo)) ∧ w'.cell? ⟨wN.heap.size, 4, none⟩ = some (.int .u64 (N x.f.s.hi)) ∧ w'.cell? ⟨wN.heap.size, 5, none⟩ = some (.int .i64 x.i) ∧ w'.cell? ⟨wN.heap.size, 6, none⟩ = some (.int .i64 x.off) ∧ Below w.heap.size w w'
theorem VTellsC_keep {v x : Vl} {f : Fa} {w wM wN : World} (w' w1 : World) (h : VTellsC v x f w wM wN w') (hb : Below w'.heap.size w' w1) : VTellsC v x f w wM wN w1 := by
  obtain ⟨k0, k1, k2, k3, k4, k5, k6, k7, k8, k9, k10, k11, k12, k13, k14, k15, k16, k17, k18, k19, k20, k21, k22, k23, k24, k25⟩ := h
  exact ⟨cell_keep hb k0, cell_keep hb k1, cell_keep hb k2, cell_keep hb k3, cell_keep hb k4, cell_keep hb k5, cell_keep hb k6, cell_keep hb k7, cell_keep hb k8, cell_keep hb k9, cell_keep hb k10, cell_keep hb k11, cell_keep hb k12, cell_keep hb k13, cell_keep hb k14, cell_keep hb k15, cell_keep hb k16, cell_keep hb k17, cell_keep hb k18, cell_keep hb k19, cell_keep hb k20, cell_keep hb k21, cell_keep hb k22, cell_keep hb k23, cell_keep hb k24, below_next k25 hb⟩

set_option maxHeartbeats 8000000 in
theorem valTells_walk (v : Vl) (_ : 0 ≤ v.k ∧ v.k ≤ 255) (_ : -9223372036854775808 ≤ v.i ∧ v.i ≤ 9223372036854775807) (_ : -9223372036854775808 ≤ v.off ∧ v.off ≤ 9223372036854775807) (f : Fa) (n : BitVec 64) (set : Bool) (w : World) : Calls Try.prog 3 #[.agg #[.int .u8 v.k, .int .u64 (N v.f.t.v), .int .u64 (N v.f.t.m), .int .u64 (N v.f.s.lo), .int .u64 (N v.f.s.hi), .int .i64 v.i, .int .i64 v.off], .agg #[.int .u64 (N f.t.v), .int .u64 (N f.t.m), .int .u64 (N f.s.lo), .int .u64 (N f.s.hi)], .int .u64 (N n), .bool set] w fun e w' => e = .returned (.bool true) ∧ Below w.heap.size w w' := by
  go_enter Try.func3, Try.ntmps3
  go_wp2_with fail
  refine (vmove_c' _ _ _ _ _ _ _ _ _).mono ?_
  rintro e wM ⟨rfl, hbwM⟩
  obtain ⟨hcwM, hfwM, hzwM⟩ := bcell hbwM
  (try simp only [World.size_alloc, World.size_setCell, World.size_drew] at hcwM hfwM hzwM)
  go_wp2_with fail
  refine (rvmove_c' _ _ _ _ _ _ _ _ _).mono ?_
  rintro e wN ⟨rfl, hbwN⟩
  obtain ⟨hcwN, hfwN, hzwN⟩ := bcell hbwN
  (try simp only [World.size_alloc, World.size_setCell, World.size_drew] at hcwN hfwN hzwN)
  simp only [Vl.eta, Tn.eta, Sp.eta, Fa.eta]
  go_wp2_with fail
  refine wp_region_class (VTellsC v (Vl.move v n) f w wM wN) (by kernel_rfl) (by kernel_rfl) ?_ ?_
  · refine ⟨?_, ?_, ?_, ?_, ?_, ?_, ?_, ?_, ?_, ?_, ?_, ?_, ?_, ?_, ?_, ?_, ?_, ?_, ?_, ?_, ?_, ?_, ?_, ?_, ?_, (by repeat' (first | (with_reducible exact Below.refl _ _) | (with_reducible assumption) | (with_reducible refine Below.alloc ?_ ?_ _) | (with_reducible refine Below.setCell ?_ ?_ _) | (with_reducible refine Below.drew ?_) | (with_reducible refine below_dn ?_ _) | (with_reducible refine Below.trans ?_ (Below.mono (by assumption) ?_)) | go_size))⟩
    all_goals first | (intro i; simp [*, go_sem, ↓IntWalk.iteOmega]; done) | (simp [*, go_sem, ↓IntWalk.iteOmega]; done)
  clear hbwM hcwM hfwM hzwM hbwN hcwN hfwN hzwN
  intro hN
  (try simp only [List.append])
  repeat (first
    | go_big_quiet_skip
    | (go_big_quiet_want
       first
         | (refine quiet_load_Val rfl rfl (fun w' hC => by obtain ⟨k0, k1, k2, k3, k4, k5, k6, k7, k8, k9, k10, k11, k12, k13, k14, k15, k16, k17, k18, k19, k20, k21, k22, k23, k24, k25⟩ := hC; first | exact ⟨k0, k1, k2, k3, k4, k5, k6⟩ | exact ⟨k1, k2, k3, k4, k5, k6, k7⟩ | exact ⟨k2, k3, k4, k5, k6, k7, k8⟩ | exact ⟨k3, k4, k5, k6, k7, k8, k9⟩ | exact ⟨k4, k5, k6, k7, k8, k9, k10⟩ | exact ⟨k5, k6, k7, k8, k9, k10, k11⟩ | exact ⟨k6, k7, k8, k9, k10, k11, k12⟩ | exact ⟨k7, k8, k9, k10, k11, k12, k13⟩ | exact ⟨k8, k9, k10, k11, k12, k13, k14⟩ | exact ⟨k9, k10, k11, k12, k13, k14, k15⟩ | exact ⟨k10, k11, k12, k13, k14, k15, k16⟩ | exact ⟨k11, k12, k13, k14, k15, k16, k17⟩ | exact ⟨k12, k13, k14, k15, k16, k17, k18⟩ | exact ⟨k13, k14, k15, k16, k17, k18, k19⟩ | exact ⟨k14, k15, k16, k17, k18, k19, k20⟩ | exact ⟨k15, k16, k17, k18, k19, k20, k21⟩ | exact ⟨k16, k17, k18, k19, k20, k21, k22⟩ | exact ⟨k17, k18, k19, k20, k21, k22, k23⟩ | exact ⟨k18, k19, k20, k21, k22, k23, k24⟩) ?_
            simp only [Act.put, List.setIfInBounds_toArray, List.set_cons_succ, List.set_cons_zero]
            go_big_quiet_on)
         | (refine quiet_load_Fa rfl rfl (fun w' hC => by obtain ⟨k0, k1, k2, k3, k4, k5, k6, k7, k8, k9, k10, k11, k12, k13, k14, k15, k16, k17, k18, k19, k20, k21, k22, k23, k24, k25⟩ := hC; first | exact ⟨k0, k1, k2, k3⟩ | exact ⟨k1, k2, k3, k4⟩ | exact ⟨k2, k3, k4, k5⟩ | exact ⟨k3, k4, k5, k6⟩ | exact ⟨k4, k5, k6, k7⟩ | exact ⟨k5, k6, k7, k8⟩ | exact ⟨k6, k7, k8, k9⟩ | exact ⟨k7, k8, k9, k10⟩ | exact ⟨k8, k9, k10, k11⟩ | exact ⟨k9, k10, k11, k12⟩ | exact ⟨k10, k11, k12, k13⟩ | exact ⟨k11, k12, k13, k14⟩ | exact ⟨k12, k13, k14, k15⟩ | exact ⟨k13, k14, k15, k16⟩ | exact ⟨k14, k15, k16, k17⟩ | exact ⟨k15, k16, k17, k18⟩ | exact ⟨k16, k17, k18, k19⟩ | exact ⟨k17, k18, k19, k20⟩ | exact ⟨k18, k19, k20, k21⟩ | exact ⟨k19, k20, k21, k22⟩ | exact ⟨k20, k21, k22, k23⟩ | exact ⟨k21, k22, k23, k24⟩) ?_
            simp only [Act.put, List.setIfInBounds_toArray, List.set_cons_succ, List.set_cons_zero]
            go_big_quiet_on)
         | (refine quiet_load_W rfl rfl (fun w' hC => by obtain ⟨k0, k1, k2, k3, k4, k5, k6, k7, k8, k9, k10, k11, k12, k13, k14, k15, k16, k17, k18, k19, k20, k21, k22, k23, k24, k25⟩ := hC; first | exact k0 | exact k1 | exact k2 | exact k3 | exact k4 | exact k5 | exact k6 | exact k7 | exact k8 | exact k9 | exact k10 | exact k11 | exact k12 | exact k13 | exact k14 | exact k15 | exact k16 | exact k17 | exact k18 | exact k19 | exact k20 | exact k21 | exact k22 | exact k23 | exact k24) ?_
            simp only [Act.put, List.setIfInBounds_toArray, List.set_cons_succ, List.set_cons_zero]
            go_big_quiet_on)
         | (go_big_quiet_op
            first
              | go_big_quiet_on
              | (apply Exists.intro
                 refine ⟨fun w' hC => ?_, ?_⟩
                 · (first | (go_at_call 11; (with_reducible refine (vshown_c _).mono ?_); rintro e w1 ⟨rfl, hb1⟩) | (go_at_call 12; (with_reducible refine (vright_c' _ _ _ _ _ _ _ _).mono ?_); rintro e w1 ⟨rfl, hb1⟩) | (go_at_call 14; (with_reducible refine (vnum_c' _ _ _ _ _).mono ?_); rintro e w1 ⟨rfl, hb1⟩) | (go_at_call 16; (with_reducible refine (vptr_c' _ _ _ _ _ _ _ _).mono ?_); rintro e w1 ⟨rfl, hb1⟩) | (go_at_call 18; (with_reducible refine (vis_c' _ _ _ _ _ _ _ _ _ _).mono ?_); rintro e w1 ⟨rfl, hb1⟩) | (go_at_call 13; (with_reducible refine (rvright_c' _ _ _ _ _ _ _ _).mono ?_); rintro e w1 ⟨rfl, hb1⟩) | (go_at_call 15; (with_reducible refine (rvnum_c' _ _ _ _ _).mono ?_); rintro e w1 ⟨rfl, hb1⟩) | (go_at_call 17; (with_reducible refine (rvptr_c' _ _ _ _ _ _ _ _).mono ?_); rintro e w1 ⟨rfl, hb1⟩) | (go_at_call 19; (with_reducible refine (rvis_c' _ _ _ _ _ _ _ _ _ _).mono ?_); rintro e w1 ⟨rfl, hb1⟩))
                   (try simp only [Vl.eta, Tn.eta, Sp.eta, Fa.eta])
                   exact ⟨rfl, by first | exact hC | exact VTellsC_keep _ _ hC hb1⟩
                 go_big_quiet_on))))
  refine wpQuiet_nil ?_
  intro w9 hC
  obtain ⟨k0, k1, k2, k3, k4, k5, k6, k7, k8, k9, k10, k11, k12, k13, k14, k15, k16, k17, k18, k19, k20, k21, k22, k23, k24, k25⟩ := hC
  have z0 := cell_lt k0
  have z7 := cell_lt k7
  have z11 := cell_lt k11
  have z18 := cell_lt k18
  go_wp2
  go_ret
  exact ⟨rfl, k25⟩

def VTwoC (a b : Vl) (w : World) (w' : World) : Prop := w'.cell? ⟨w.heap.size, 0, none⟩ = some (.int .u8 a.k) ∧ w'.cell? ⟨w.heap.size, 1, none⟩ = some (.int .u64 (N a.f.t.v)) ∧ w'.cell? ⟨w.heap.size, 2, none⟩ = some (.int .u64 (N a.f.t.m)) ∧ w'.cell? ⟨w.heap.size, 3, none⟩ = some (.int .u64 (N a.f.s.lo)) ∧ w'.cell? ⟨w.heap.size, 4, none⟩ = some (.int .u64 (N a.f.s.hi)) ∧ w'.cell? ⟨w.heap.size, 5, none⟩ = some (.int .i64 a.i) ∧ w'.cell? ⟨w.heap.size, 6, none⟩ = some (.int .i64 a.off) ∧ w'.cell? ⟨w.heap.size + 1, 0, none⟩ = some (.int .u8 b.k) ∧ w'.cell? ⟨w.heap.size + 1, 1, none⟩ = some (.int .u64 (N b.f.t.v)) ∧ w'.cell? ⟨w.heap.size + 1, 2, none⟩ = some (.int .u64 (N b.f.t.m)) ∧ w'.cell? ⟨w.heap.size + 1, 3, none⟩ = some (.int .u64 (N b.f.s.lo)) ∧ w'.cell? ⟨w.heap.size + 1, 4, none⟩ = some (.int .u64 (N b.f.s.hi)) ∧ w'.cell? ⟨w.heap.size + 1, 5, none⟩ = some (.int .i64 b.i) ∧ w'.cell? ⟨w.heap.size + 1, 6, none⟩ = some (.int .i64 b.off) ∧ Below w.heap.size w w'
theorem VTwoC_keep {a b : Vl} {w : World} (w' w1 : World) (h : VTwoC a b w w') (hb : Below w'.heap.size w' w1) : VTwoC a b w w1 := by
  obtain ⟨k0, k1, k2, k3, k4, k5, k6, k7, k8, k9, k10, k11, k12, k13, k14⟩ := h
  exact ⟨cell_keep hb k0, cell_keep hb k1, cell_keep hb k2, cell_keep hb k3, cell_keep hb k4, cell_keep hb k5, cell_keep hb k6, cell_keep hb k7, cell_keep hb k8, cell_keep hb k9, cell_keep hb k10, cell_keep hb k11, cell_keep hb k12, cell_keep hb k13, below_next k14 hb⟩

set_option maxHeartbeats 8000000 in
theorem valTwo_walk (a : Vl) (_ : 0 ≤ a.k ∧ a.k ≤ 255) (_ : -9223372036854775808 ≤ a.i ∧ a.i ≤ 9223372036854775807) (_ : -9223372036854775808 ≤ a.off ∧ a.off ≤ 9223372036854775807) (b : Vl) (_ : 0 ≤ b.k ∧ b.k ≤ 255) (_ : -9223372036854775808 ≤ b.i ∧ b.i ≤ 9223372036854775807) (_ : -9223372036854775808 ≤ b.off ∧ b.off ≤ 9223372036854775807) (w : World) : Calls Try.prog 6 #[.agg #[.int .u8 a.k, .int .u64 (N a.f.t.v), .int .u64 (N a.f.t.m), .int .u64 (N a.f.s.lo), .int .u64 (N a.f.s.hi), .int .i64 a.i, .int .i64 a.off], .agg #[.int .u8 b.k, .int .u64 (N b.f.t.v), .int .u64 (N b.f.t.m), .int .u64 (N b.f.s.lo), .int .u64 (N b.f.s.hi), .int .i64 b.i, .int .i64 b.off]] w fun e w' => e = .returned (.bool true) ∧ Below w.heap.size w w' := by
  go_enter Try.func6, Try.ntmps6
  go_wp2_with fail
  refine wp_region_class (VTwoC a b w) (by kernel_rfl) (by kernel_rfl) ?_ ?_
  · refine ⟨?_, ?_, ?_, ?_, ?_, ?_, ?_, ?_, ?_, ?_, ?_, ?_, ?_, ?_, (by repeat' (first | (with_reducible exact Below.refl _ _) | (with_reducible assumption) | (with_reducible refine Below.alloc ?_ ?_ _) | (with_reducible refine Below.setCell ?_ ?_ _) | (with_reducible refine Below.drew ?_) | (with_reducible refine below_dn ?_ _) | (with_reducible refine Below.trans ?_ (Below.mono (by assumption) ?_)) | go_size))⟩
    all_goals first | (intro i; simp [*, go_sem, ↓IntWalk.iteOmega]; done) | (simp [*, go_sem, ↓IntWalk.iteOmega]; done)
  intro hN
  (try simp only [List.append])
  repeat (first
    | go_big_quiet_skip
    | (go_big_quiet_want
       first
         | (refine quiet_load_Val rfl rfl (fun w' hC => by obtain ⟨k0, k1, k2, k3, k4, k5, k6, k7, k8, k9, k10, k11, k12, k13, k14⟩ := hC; first | exact ⟨k0, k1, k2, k3, k4, k5, k6⟩ | exact ⟨k1, k2, k3, k4, k5, k6, k7⟩ | exact ⟨k2, k3, k4, k5, k6, k7, k8⟩ | exact ⟨k3, k4, k5, k6, k7, k8, k9⟩ | exact ⟨k4, k5, k6, k7, k8, k9, k10⟩ | exact ⟨k5, k6, k7, k8, k9, k10, k11⟩ | exact ⟨k6, k7, k8, k9, k10, k11, k12⟩ | exact ⟨k7, k8, k9, k10, k11, k12, k13⟩) ?_
            simp only [Act.put, List.setIfInBounds_toArray, List.set_cons_succ, List.set_cons_zero]
            go_big_quiet_on)
         | (refine quiet_load_W rfl rfl (fun w' hC => by obtain ⟨k0, k1, k2, k3, k4, k5, k6, k7, k8, k9, k10, k11, k12, k13, k14⟩ := hC; first | exact k0 | exact k1 | exact k2 | exact k3 | exact k4 | exact k5 | exact k6 | exact k7 | exact k8 | exact k9 | exact k10 | exact k11 | exact k12 | exact k13) ?_
            simp only [Act.put, List.setIfInBounds_toArray, List.set_cons_succ, List.set_cons_zero]
            go_big_quiet_on)
         | (go_big_quiet_op
            first
              | go_big_quiet_on
              | (apply Exists.intro
                 refine ⟨fun w' hC => ?_, ?_⟩
                 · (first | (go_at_call 11; (with_reducible refine (vshown_c _).mono ?_); rintro e w1 ⟨rfl, hb1⟩) | (go_at_call 21; (with_reducible refine (vwithin_c' _ _ _ _ _ _ _ _ _ _ _ _ _ _ _).mono ?_); rintro e w1 ⟨rfl, hb1⟩) | (go_at_call 23; (with_reducible refine (vjoin_c' _ _ _ _ _ _ _ _ _ _ _ _ _ _ _).mono ?_); rintro e w1 ⟨rfl, hb1⟩) | (go_at_call 22; (with_reducible refine (rvwithin_c' _ _ _ _ _ _ _ _ _ _ _ _ _ _ _).mono ?_); rintro e w1 ⟨rfl, hb1⟩) | (go_at_call 24; (with_reducible refine (rvjoin_c' _ _ _ _ _ _ _ _ _ _ _ _ _ _ _).mono ?_); rintro e w1 ⟨rfl, hb1⟩))
                   (try simp only [Vl.eta, Tn.eta, Sp.eta, Fa.eta])
                   exact ⟨rfl, by first | exact hC | exact VTwoC_keep _ _ hC hb1⟩
                 go_big_quiet_on))))
  refine wpQuiet_nil ?_
  intro w9 hC
  obtain ⟨k0, k1, k2, k3, k4, k5, k6, k7, k8, k9, k10, k11, k12, k13, k14⟩ := hC
  have z0 := cell_lt k0
  have z7 := cell_lt k7
  go_wp2
  go_ret
  exact ⟨rfl, k14⟩

end Hk
