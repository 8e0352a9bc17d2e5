/- The statement ValOrder of the Go text: it returns true, and old memory is as it was. No condition but the bounds of the arguments' kinds. -/
import Derived.Test.YtnngchpbblehfaaProg
import Derived.Test.YtnngchpbblehfaaGp
import Derived.Test.YtnngchpbblehfaaVlLaw
import Derived.Test.YtnngchpbblehfaaVl5
import Derived.Test.YtnngchpbblehfaaGl
namespace Hk
open Go Go.RowKit Go.Proofs
set_option linter.unusedSimpArgs false
set_option linter.unusedVariables false
set_option maxRecDepth 100000
attribute [go_sem] Tn.eta Sp.eta Fa.eta Vl.eta
def VOrdC (a b c : Vl) (w : World) (w' : World) : Prop := w'.cell? ⟨w.heap.size, 0, none⟩ = some (.int .u8 a.k) ∧ w'.cell? ⟨w.heap.size, 1, none⟩ = some (.int .u64 (N a.f.t.v)) ∧ w'.cell? ⟨w.heap.size, 2, none⟩ = some (.int .u64 (N a.f.t.m)) ∧ w'.cell? ⟨w.heap.size, 3, none⟩ = some (.int .u64 (N a.f.s.lo)) ∧ w'.cell? ⟨w.heap.size, 4, none⟩ = some (.int .u64 (N a.f.s.hi)) ∧ w'.cell? ⟨w.heap.size, 5, none⟩ = some (.int .i64 a.i) ∧ w'.cell? ⟨w.heap.size, 6, none⟩ = some (.int .i64 a.off) ∧ w'.cell? ⟨w.heap.size + 1, 0, none⟩ = some (.int .u8 b.k) ∧ w'.cell? ⟨w.heap.size + 1, 1, none⟩ = some (.int .u64 (N b.f.t.v)) ∧ w'.cell? ⟨w.heap.size + 1, 2, none⟩ = some (.int .u64 (N b.f.t.m)) ∧ w'.cell? ⟨w.heap.size + 1, 3, none⟩ = some (.int .u64 (N b.f.s.lo)) ∧ w'.cell? ⟨w.heap.size + 1, 4, none⟩ = some (.int .u64 (N b.f.s.hi)) ∧ w'.cell? ⟨w.heap.size + 1, 5, none⟩ = some (.int .i64 b.i) ∧ w'.cell? ⟨w.heap.size + 1, 6, none⟩ = some (.int .i64 b.off) ∧ w'.cell? ⟨w.heap.size + 1 + 1, 0, none⟩ = some (.int .u8 c.k) ∧ w'.cell? ⟨w.heap.size + 1 + 1, 1, none⟩ = some (.int .u64 (N c.f.t.v)) ∧ w'.cell? ⟨w.heap.size + 1 + 1, 2, none⟩ = some (.int .u64 (N c.f.t.m)) ∧ w'.cell? ⟨w.heap.size + 1 + 1, 3, none⟩ = some (.int .u64 (N c.f.s.lo)) ∧ w'.cell? ⟨w.heap.size + 1 + 1, 4, none⟩ = some (.int .u64 (N c.f.s.hi)) ∧ w'.cell? ⟨w.heap.size + 1 + 1, 5, none⟩ = some (.int .i64 c.i) ∧ w'.cell? ⟨w.heap.size + 1 + 1, 6, none⟩ = some (.int .i64 c.off) ∧ Below w.heap.size w w'
theorem VOrdC_keep {a b c : Vl} {w : World} (w' w1 : World) (h : VOrdC a b c w w') (hb : Below w'.heap.size w' w1) : VOrdC a b c w w1 := by
  obtain ⟨k0, k1, k2, k3, k4, k5, k6, k7, k8, k9, k10, k11, k12, k13, k14, k15, k16, k17, k18, k19, k20, k21⟩ := h
  exact ⟨cell_keep hb k0, cell_keep hb k1, cell_keep hb k2, cell_keep hb k3, cell_keep hb k4, cell_keep hb k5, cell_keep hb k6, cell_keep hb k7, cell_keep hb k8, cell_keep hb k9, cell_keep hb k10, cell_keep hb k11, cell_keep hb k12, cell_keep hb k13, cell_keep hb k14, cell_keep hb k15, cell_keep hb k16, cell_keep hb k17, cell_keep hb k18, cell_keep hb k19, cell_keep hb k20, below_next k21 hb⟩

set_option maxHeartbeats 8000000 in
theorem valOrder_x (a b c : Vl) (x y z : Bool) (hx : Vl.within a b = x) (hy : Vl.within b c = y) (hz : Vl.within a c = z) (ho : (!x || !y || z) = true) (f1 : Vl.within a a = Vl.right a) (f2 : Vl.within a ⟨0, ⟨⟨0#64, 0#64⟩, ⟨0#64, 0#64⟩⟩, 0, 0⟩ = Vl.right a) (w : World) : Calls Try.prog 8 #[.agg #[.int .u8 a.k, .int .u64 (N a.f.t.v), .int .u64 (N a.f.t.m), .int .u64 (N a.f.s.lo), .int .u64 (N a.f.s.hi), .int .i64 a.i, .int .i64 a.off], .agg #[.int .u8 b.k, .int .u64 (N b.f.t.v), .int .u64 (N b.f.t.m), .int .u64 (N b.f.s.lo), .int .u64 (N b.f.s.hi), .int .i64 b.i, .int .i64 b.off], .agg #[.int .u8 c.k, .int .u64 (N c.f.t.v), .int .u64 (N c.f.t.m), .int .u64 (N c.f.s.lo), .int .u64 (N c.f.s.hi), .int .i64 c.i, .int .i64 c.off]] w fun e w' => e = .returned (.bool true) ∧ Below w.heap.size w w' := by
  go_enter Try.func8, Try.ntmps8
  go_wp2_with fail
  refine (vshown_c _).mono ?_
  rintro e wS ⟨rfl, hbwS⟩
  obtain ⟨hcwS, hfwS, hzwS⟩ := bcell hbwS
  (try simp only [World.size_alloc, World.size_setCell, World.size_drew] at hcwS hfwS hzwS)
  go_wp2_with fail
  cases x <;> cases y <;> cases z
  all_goals first | (exact absurd ho (by decide)) | clear ho
  all_goals
    refine wp_region_class (VOrdC a b c w) (by kernel_rfl) (by kernel_rfl) ?_ ?_
    · refine ⟨?_, ?_, ?_, ?_, ?_, ?_, ?_, ?_, ?_, ?_, ?_, ?_, ?_, ?_, ?_, ?_, ?_, ?_, ?_, ?_, ?_, (by repeat' (first | (with_reducible exact Below.refl _ _) | (with_reducible assumption) | (with_reducible refine Below.alloc ?_ ?_ _) | (with_reducible refine Below.setCell ?_ ?_ _) | (with_reducible refine Below.drew ?_) | (with_reducible refine below_dn ?_ _) | (with_reducible refine Below.trans ?_ (Below.mono (by assumption) ?_)) | go_size))⟩
      all_goals first | (intro i; simp [*, go_sem, ↓IntWalk.iteOmega]; done) | (simp [*, go_sem, ↓IntWalk.iteOmega]; done)
    clear hbwS hcwS hfwS hzwS
    intro hN
    (try simp only [List.append])
    repeat (first
      | go_big_quiet_skip
      | (go_big_quiet_want
         first
           | (refine quiet_load_Val rfl rfl (fun w' hC => by obtain ⟨k0, k1, k2, k3, k4, k5, k6, k7, k8, k9, k10, k11, k12, k13, k14, k15, k16, k17, k18, k19, k20, k21⟩ := hC; first | exact ⟨k0, k1, k2, k3, k4, k5, k6⟩ | exact ⟨k1, k2, k3, k4, k5, k6, k7⟩ | exact ⟨k2, k3, k4, k5, k6, k7, k8⟩ | exact ⟨k3, k4, k5, k6, k7, k8, k9⟩ | exact ⟨k4, k5, k6, k7, k8, k9, k10⟩ | exact ⟨k5, k6, k7, k8, k9, k10, k11⟩ | exact ⟨k6, k7, k8, k9, k10, k11, k12⟩ | exact ⟨k7, k8, k9, k10, k11, k12, k13⟩ | exact ⟨k8, k9, k10, k11, k12, k13, k14⟩ | exact ⟨k9, k10, k11, k12, k13, k14, k15⟩ | exact ⟨k10, k11, k12, k13, k14, k15, k16⟩ | exact ⟨k11, k12, k13, k14, k15, k16, k17⟩ | exact ⟨k12, k13, k14, k15, k16, k17, k18⟩ | exact ⟨k13, k14, k15, k16, k17, k18, k19⟩ | exact ⟨k14, k15, k16, k17, k18, k19, k20⟩) ?_
              simp only [Act.put, List.setIfInBounds_toArray, List.set_cons_succ, List.set_cons_zero]
              go_big_quiet_on)
           | (refine quiet_load_W rfl rfl (fun w' hC => by obtain ⟨k0, k1, k2, k3, k4, k5, k6, k7, k8, k9, k10, k11, k12, k13, k14, k15, k16, k17, k18, k19, k20, k21⟩ := hC; first | exact k0 | exact k1 | exact k2 | exact k3 | exact k4 | exact k5 | exact k6 | exact k7 | exact k8 | exact k9 | exact k10 | exact k11 | exact k12 | exact k13 | exact k14 | exact k15 | exact k16 | exact k17 | exact k18 | exact k19 | exact k20) ?_
              simp only [Act.put, List.setIfInBounds_toArray, List.set_cons_succ, List.set_cons_zero]
              go_big_quiet_on)
           | (go_big_quiet_op
              first
                | go_big_quiet_on
                | (apply Exists.intro
                   refine ⟨fun w' hC => ?_, ?_⟩
                   · (first | (go_at_call 21; (with_reducible refine (vwithin_c' _ _ _ _ _ _ _ _ _ _ _ _ _ _ _).mono ?_); rintro e w1 ⟨rfl, hb1⟩))
                     (try simp only [Vl.eta, Tn.eta, Sp.eta, Fa.eta, hx, hy, hz])
                     exact ⟨rfl, by first | exact hC | exact VOrdC_keep _ _ hC hb1⟩
                   go_big_quiet_on))))
    refine wpQuiet_nil ?_
    intro w8 hC
    obtain ⟨k0, k1, k2, k3, k4, k5, k6, k7, k8, k9, k10, k11, k12, k13, k14, k15, k16, k17, k18, k19, k20, k21⟩ := hC
    have z0 := cell_lt k0
    have z7 := cell_lt k7
    have z14 := cell_lt k14
    go_wp2_with fail
    refine wp_region_class (VOrdC a b c w) (by kernel_rfl) (by kernel_rfl) ?_ ?_
    · refine ⟨?_, ?_, ?_, ?_, ?_, ?_, ?_, ?_, ?_, ?_, ?_, ?_, ?_, ?_, ?_, ?_, ?_, ?_, ?_, ?_, ?_, (by repeat' (first | (with_reducible exact Below.refl _ _) | (with_reducible assumption) | (with_reducible refine Below.alloc ?_ ?_ _) | (with_reducible refine Below.setCell ?_ ?_ _) | (with_reducible refine Below.drew ?_) | (with_reducible refine below_dn ?_ _) | (with_reducible refine Below.trans ?_ (Below.mono (by assumption) ?_)) | go_size))⟩
      all_goals first | (intro i; simp [*, go_sem, ↓IntWalk.iteOmega]; done) | (simp [*, go_sem, ↓IntWalk.iteOmega]; done)
    intro hN
    (try simp only [List.append])
    repeat (first
      | go_big_quiet_skip
      | (go_big_quiet_want
         first
           | (refine quiet_load_Val rfl rfl (fun w' hC => by obtain ⟨k0, k1, k2, k3, k4, k5, k6, k7, k8, k9, k10, k11, k12, k13, k14, k15, k16, k17, k18, k19, k20, k21⟩ := hC; first | exact ⟨k0, k1, k2, k3, k4, k5, k6⟩ | exact ⟨k1, k2, k3, k4, k5, k6, k7⟩ | exact ⟨k2, k3, k4, k5, k6, k7, k8⟩ | exact ⟨k3, k4, k5, k6, k7, k8, k9⟩ | exact ⟨k4, k5, k6, k7, k8, k9, k10⟩ | exact ⟨k5, k6, k7, k8, k9, k10, k11⟩ | exact ⟨k6, k7, k8, k9, k10, k11, k12⟩ | exact ⟨k7, k8, k9, k10, k11, k12, k13⟩ | exact ⟨k8, k9, k10, k11, k12, k13, k14⟩ | exact ⟨k9, k10, k11, k12, k13, k14, k15⟩ | exact ⟨k10, k11, k12, k13, k14, k15, k16⟩ | exact ⟨k11, k12, k13, k14, k15, k16, k17⟩ | exact ⟨k12, k13, k14, k15, k16, k17, k18⟩ | exact ⟨k13, k14, k15, k16, k17, k18, k19⟩ | exact ⟨k14, k15, k16, k17, k18, k19, k20⟩) ?_
              simp only [Act.put, List.setIfInBounds_toArray, List.set_cons_succ, List.set_cons_zero]
              go_big_quiet_on)
           | (refine quiet_load_W rfl rfl (fun w' hC => by obtain ⟨k0, k1, k2, k3, k4, k5, k6, k7, k8, k9, k10, k11, k12, k13, k14, k15, k16, k17, k18, k19, k20, k21⟩ := hC; first | exact k0 | exact k1 | exact k2 | exact k3 | exact k4 | exact k5 | exact k6 | exact k7 | exact k8 | exact k9 | exact k10 | exact k11 | exact k12 | exact k13 | exact k14 | exact k15 | exact k16 | exact k17 | exact k18 | exact k19 | exact k20) ?_
              simp only [Act.put, List.setIfInBounds_toArray, List.set_cons_succ, List.set_cons_zero]
              go_big_quiet_on)
           | (go_big_quiet_op
              first
                | go_big_quiet_on
                | (apply Exists.intro
                   refine ⟨fun w' hC => ?_, ?_⟩
                   · (first | (go_at_call 21; (with_reducible refine (vwithin_c' _ _ _ _ _ _ _ _ _ _ _ _ _ _ _).mono ?_); rintro e w1 ⟨rfl, hb1⟩) | (go_at_call 12; (with_reducible refine (vright_c' _ _ _ _ _ _ _ _).mono ?_); rintro e w1 ⟨rfl, hb1⟩))
                     (try simp only [Vl.eta, Tn.eta, Sp.eta, Fa.eta, f1, f2])
                     exact ⟨rfl, by first | exact hC | exact VOrdC_keep _ _ hC hb1⟩
                   go_big_quiet_on))))
    refine wpQuiet_nil ?_
    intro w9 hC
    obtain ⟨k0, k1, k2, k3, k4, k5, k6, k7, k8, k9, k10, k11, k12, k13, k14, k15, k16, k17, k18, k19, k20, k21⟩ := hC
    have z0 := cell_lt k0
    have z7 := cell_lt k7
    have z14 := cell_lt k14
    go_wp2
    go_ret
    exact ⟨rfl, k21⟩

theorem valOrder_walk (a : Vl) (_ : 0 ≤ a.k ∧ a.k ≤ 255) (_ : -9223372036854775808 ≤ a.i ∧ a.i ≤ 9223372036854775807) (_ : -9223372036854775808 ≤ a.off ∧ a.off ≤ 9223372036854775807) (b : Vl) (_ : 0 ≤ b.k ∧ b.k ≤ 255) (_ : -9223372036854775808 ≤ b.i ∧ b.i ≤ 9223372036854775807) (_ : -9223372036854775808 ≤ b.off ∧ b.off ≤ 9223372036854775807) (c : Vl) (_ : 0 ≤ c.k ∧ c.k ≤ 255) (_ : -9223372036854775808 ≤ c.i ∧ c.i ≤ 9223372036854775807) (_ : -9223372036854775808 ≤ c.off ∧ c.off ≤ 9223372036854775807) (w : World) : Calls Try.prog 8 #[.agg #[.int .u8 a.k, .int .u64 (N a.f.t.v), .int .u64 (N a.f.t.m), .int .u64 (N a.f.s.lo), .int .u64 (N a.f.s.hi), .int .i64 a.i, .int .i64 a.off], .agg #[.int .u8 b.k, .int .u64 (N b.f.t.v), .int .u64 (N b.f.t.m), .int .u64 (N b.f.s.lo), .int .u64 (N b.f.s.hi), .int .i64 b.i, .int .i64 b.off], .agg #[.int .u8 c.k, .int .u64 (N c.f.t.v), .int .u64 (N c.f.t.m), .int .u64 (N c.f.s.lo), .int .u64 (N c.f.s.hi), .int .i64 c.i, .int .i64 c.off]] w fun e w' => e = .returned (.bool true) ∧ Below w.heap.size w w' := by
  refine valOrder_x a b c _ _ _ rfl rfl rfl ?_ (Vl.within_self a) (Vl.within_zero a) w
  cases hx : Vl.within a b
  · rfl
  cases hy : Vl.within b c
  · rfl
  rw [Vl.within_trans hx hy]
  rfl

end Hk
