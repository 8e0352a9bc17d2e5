/- The statement ValKinds of the Go text: it returns true, and old memory is as it was. No condition but the bounds of the arguments' kinds. -/
import Derived.Test.YtnngchpbblehfaaProg
import Derived.Test.YtnngchpbblehfaaGp
import Derived.Test.YtnngchpbblehfaaVlKd
import Derived.Test.YtnngchpbblehfaaVl5
import Derived.Test.YtnngchpbblehfaaGx
import Derived.Test.YtnngchpbblehfaaGl
namespace Hk
open Go Go.RowKit Go.Proofs
set_option linter.unusedSimpArgs false
set_option linter.unusedVariables false
set_option maxRecDepth 100000
attribute [go_sem] Tn.eta Sp.eta Fa.eta Vl.eta
theorem run_load_B8 (ρ : Operand → Value) (op : Oper) (x : Operand) (b o : Nat) (c0 : Value) (ho : op.op = .load 5 x) (hx : ρ x = .pointer (some ⟨b, o, none⟩)) (w : World) (h0 : w.cell? ⟨b, o, none⟩ = some c0) :
    (execOp ρ op).run Try.prog w = .ok (.value (c0)) w := by
  obtain ⟨dst, op, type, pos, after, guard⟩ := op
  simp only at ho
  subst ho
  go_simp
theorem quiet_load_B8 {op : Oper} {a : Act} {C : World → Prop} {K : Act → Prop} {x : Operand} {b o : Nat} {c0 : Value} (ho : op.op = .load 5 x) (hx : a.eval x = .pointer (some ⟨b, o, none⟩))
    (h : ∀ w, C w → w.cell? ⟨b, o, none⟩ = some c0) (hk : K (a.put op.dst (c0))) : op.quiet Try.prog a C K :=
  quiet_mk (v := c0) (fun w hC => by unfold Oper.quietAt; have h0 := h w hC; rw [run_load_B8 _ op x b o c0 ho hx w h0]; exact ⟨rfl, rfl⟩) hk

def VKdC (f : Fa) (a b v : Vl) (w wN : World) (w' : World) : Prop := w'.cell? ⟨w.heap.size, 0, none⟩ = some (.int .u64 (N f.t.v)) ∧ w'.cell? ⟨w.heap.size, 1, none⟩ = some (.int .u64 (N f.t.m)) ∧ w'.cell? ⟨w.heap.size, 2, none⟩ = some (.int .u64 (N f.s.lo)) ∧ w'.cell? ⟨w.heap.size, 3, none⟩ = some (.int .u64 (N f.s.hi)) ∧ w'.cell? ⟨w.heap.size + 1, 0, none⟩ = some (.int .u8 a.k) ∧ w'.cell? ⟨w.heap.size + 1, 1, none⟩ = some (.int .u64 (N a.f.t.v)) ∧ w'.cell? ⟨w.heap.size + 1, 2, none⟩ = some (.int .u64 (N a.f.t.m)) ∧ w'.cell? ⟨w.heap.size + 1, 3, none⟩ = some (.int .u64 (N a.f.s.lo)) ∧ w'.cell? ⟨w.heap.size + 1, 4, none⟩ = some (.int .u64 (N a.f.s.hi)) ∧ w'.cell? ⟨w.heap.size + 1, 5, none⟩ = some (.int .i64 a.i) ∧ w'.cell? ⟨w.heap.size + 1, 6, none⟩ = some (.int .i64 a.off) ∧ w'.cell? ⟨w.heap.size + 1 + 1, 0, none⟩ = some (.int .u8 b.k) ∧ w'.cell? ⟨w.heap.size + 1 + 1, 1, none⟩ = some (.int .u64 (N b.f.t.v)) ∧ w'.cell? ⟨w.heap.size + 1 + 1, 2, none⟩ = some (.int .u64 (N b.f.t.m)) ∧ w'.cell? ⟨w.heap.size + 1 + 1, 3, none⟩ = some (.int .u64 (N b.f.s.lo)) ∧ w'.cell? ⟨w.heap.size + 1 + 1, 4, none⟩ = some (.int .u64 (N b.f.s.hi)) ∧ w'.cell? ⟨w.heap.size + 1 + 1, 5, none⟩ = some (.int .i64 b.i) ∧ w'.cell? ⟨w.heap.size + 1 + 1, 6, none⟩ = some (.int .i64 b.off) ∧ w'.cell? ⟨wN.heap.size, 0, none⟩ = some (.int .u8 v.k) ∧ w'.cell? ⟨wN.heap.size, 1, none⟩ = some (.int .u64 (N v.f.t.v)) ∧ w'.cell? ⟨wN.heap.size, 2, none⟩ = some (.int .u64 (N v.f.t.m)) ∧ w'.cell? ⟨wN.heap.size, 3, none⟩ = some (.int .u64 (N v.f.s.lo)) ∧ w'.cell? ⟨wN.heap.size, 4, none⟩ = some (.int .u64 (N v.f.s.hi)) ∧ w'.cell? ⟨wN.heap.size, 5, none⟩ = some (.int .i64 v.i) ∧ w'.cell? ⟨wN.heap.size, 6, none⟩ = some (.int .i64 v.off) ∧ Below w.heap.size w w'
theorem VKdC_keep {f : Fa} {a b v : Vl} {w wN : World} (w' w1 : World) (h : VKdC f a b v w wN w') (hb : Below w'.heap.size w' w1) : VKdC f a b v w wN w1 := by
  obtain ⟨k0, k1, k2, k3, k4, k5, k6, k7, k8, k9, k10, k11, k12, k13, k14, k15, k16, k17, k18, k19, k20, k21, k22, k23, k24, k25⟩ := h
  exact ⟨cell_keep hb k0, cell_keep hb k1, cell_keep hb k2, cell_keep hb k3, cell_keep hb k4, cell_keep hb k5, cell_keep hb k6, cell_keep hb k7, cell_keep hb k8, cell_keep hb k9, cell_keep hb k10, cell_keep hb k11, cell_keep hb k12, cell_keep hb k13, cell_keep hb k14, cell_keep hb k15, cell_keep hb k16, cell_keep hb k17, cell_keep hb k18, cell_keep hb k19, cell_keep hb k20, cell_keep hb k21, cell_keep hb k22, cell_keep hb k23, cell_keep hb k24, below_next k25 hb⟩

set_option maxHeartbeats 8000000 in
theorem valKinds_y (f : Fa) (a b : Vl) (n : BitVec 64) (ho : Fa.ok f = true) (hv : Vl.num f = (⟨1, f, 0, 0⟩ : Vl)) (hp : Vl.ptr (⟨1, f, 0, 0⟩ : Vl) = false) (hr : Vl.right (⟨1, f, 0, 0⟩ : Vl) = true) (w : World) : Calls Try.prog 5 #[.agg #[.int .u64 (N f.t.v), .int .u64 (N f.t.m), .int .u64 (N f.s.lo), .int .u64 (N f.s.hi)], .agg #[.int .u8 a.k, .int .u64 (N a.f.t.v), .int .u64 (N a.f.t.m), .int .u64 (N a.f.s.lo), .int .u64 (N a.f.s.hi), .int .i64 a.i, .int .i64 a.off], .agg #[.int .u8 b.k, .int .u64 (N b.f.t.v), .int .u64 (N b.f.t.m), .int .u64 (N b.f.s.lo), .int .u64 (N b.f.s.hi), .int .i64 b.i, .int .i64 b.off], .int .u64 (N n)] w fun e w' => e = .returned (.bool true) ∧ Below w.heap.size w w' := by
  go_enter Try.func5, Try.ntmps5
  go_wp2_with fail
  refine (vshown_c _).mono ?_
  rintro e wS ⟨rfl, hbwS⟩
  obtain ⟨hcwS, hfwS, hzwS⟩ := bcell hbwS
  (try simp only [World.size_alloc, World.size_setCell, World.size_drew] at hcwS hfwS hzwS)
  go_wp2_with fail
  refine (vnum_c' _ _ _ _ _).mono ?_
  rintro e wN ⟨rfl, hbwN⟩
  obtain ⟨hcwN, hfwN, hzwN⟩ := bcell hbwN
  (try simp only [World.size_alloc, World.size_setCell, World.size_drew] at hcwN hfwN hzwN)
  simp only [Vl.eta, Tn.eta, Sp.eta, Fa.eta, hv]
  go_wp2_with fail
  refine wp_region_class (VKdC f a b (⟨1, f, 0, 0⟩ : Vl) w wN) (by kernel_rfl) (by kernel_rfl) ?_ ?_
  · refine ⟨?_, ?_, ?_, ?_, ?_, ?_, ?_, ?_, ?_, ?_, ?_, ?_, ?_, ?_, ?_, ?_, ?_, ?_, ?_, ?_, ?_, ?_, ?_, ?_, ?_, (by repeat' (first | (with_reducible exact Below.refl _ _) | (with_reducible assumption) | (with_reducible refine Below.alloc ?_ ?_ _) | (with_reducible refine Below.setCell ?_ ?_ _) | (with_reducible refine Below.drew ?_) | (with_reducible refine below_dn ?_ _) | (with_reducible refine Below.trans ?_ (Below.mono (by assumption) ?_)) | go_size))⟩
    all_goals first | (intro i; simp [*, go_sem, ↓IntWalk.iteOmega]; done) | (simp [*, go_sem, ↓IntWalk.iteOmega]; done)
  clear hbwS hcwS hfwS hzwS hbwN hcwN hfwN hzwN
  intro hN
  (try simp only [List.append])
  repeat (first
    | go_big_quiet_skip
    | (go_big_quiet_want
       first
         | (refine quiet_load_Val rfl rfl (fun w' hC => by obtain ⟨k0, k1, k2, k3, k4, k5, k6, k7, k8, k9, k10, k11, k12, k13, k14, k15, k16, k17, k18, k19, k20, k21, k22, k23, k24, k25⟩ := hC; first | exact ⟨k0, k1, k2, k3, k4, k5, k6⟩ | exact ⟨k1, k2, k3, k4, k5, k6, k7⟩ | exact ⟨k2, k3, k4, k5, k6, k7, k8⟩ | exact ⟨k3, k4, k5, k6, k7, k8, k9⟩ | exact ⟨k4, k5, k6, k7, k8, k9, k10⟩ | exact ⟨k5, k6, k7, k8, k9, k10, k11⟩ | exact ⟨k6, k7, k8, k9, k10, k11, k12⟩ | exact ⟨k7, k8, k9, k10, k11, k12, k13⟩ | exact ⟨k8, k9, k10, k11, k12, k13, k14⟩ | exact ⟨k9, k10, k11, k12, k13, k14, k15⟩ | exact ⟨k10, k11, k12, k13, k14, k15, k16⟩ | exact ⟨k11, k12, k13, k14, k15, k16, k17⟩ | exact ⟨k12, k13, k14, k15, k16, k17, k18⟩ | exact ⟨k13, k14, k15, k16, k17, k18, k19⟩ | exact ⟨k14, k15, k16, k17, k18, k19, k20⟩ | exact ⟨k15, k16, k17, k18, k19, k20, k21⟩ | exact ⟨k16, k17, k18, k19, k20, k21, k22⟩ | exact ⟨k17, k18, k19, k20, k21, k22, k23⟩ | exact ⟨k18, k19, k20, k21, k22, k23, k24⟩) ?_
            simp only [Act.put, List.setIfInBounds_toArray, List.set_cons_succ, List.set_cons_zero]
            go_big_quiet_on)
         | (refine quiet_load_Fa rfl rfl (fun w' hC => by obtain ⟨k0, k1, k2, k3, k4, k5, k6, k7, k8, k9, k10, k11, k12, k13, k14, k15, k16, k17, k18, k19, k20, k21, k22, k23, k24, k25⟩ := hC; first | exact ⟨k0, k1, k2, k3⟩ | exact ⟨k1, k2, k3, k4⟩ | exact ⟨k2, k3, k4, k5⟩ | exact ⟨k3, k4, k5, k6⟩ | exact ⟨k4, k5, k6, k7⟩ | exact ⟨k5, k6, k7, k8⟩ | exact ⟨k6, k7, k8, k9⟩ | exact ⟨k7, k8, k9, k10⟩ | exact ⟨k8, k9, k10, k11⟩ | exact ⟨k9, k10, k11, k12⟩ | exact ⟨k10, k11, k12, k13⟩ | exact ⟨k11, k12, k13, k14⟩ | exact ⟨k12, k13, k14, k15⟩ | exact ⟨k13, k14, k15, k16⟩ | exact ⟨k14, k15, k16, k17⟩ | exact ⟨k15, k16, k17, k18⟩ | exact ⟨k16, k17, k18, k19⟩ | exact ⟨k17, k18, k19, k20⟩ | exact ⟨k18, k19, k20, k21⟩ | exact ⟨k19, k20, k21, k22⟩ | exact ⟨k20, k21, k22, k23⟩ | exact ⟨k21, k22, k23, k24⟩) ?_
            simp only [Act.put, List.setIfInBounds_toArray, List.set_cons_succ, List.set_cons_zero]
            go_big_quiet_on)
         | (refine quiet_load_B8 rfl rfl (fun w' hC => by obtain ⟨k0, k1, k2, k3, k4, k5, k6, k7, k8, k9, k10, k11, k12, k13, k14, k15, k16, k17, k18, k19, k20, k21, k22, k23, k24, k25⟩ := hC; first | exact k0 | exact k1 | exact k2 | exact k3 | exact k4 | exact k5 | exact k6 | exact k7 | exact k8 | exact k9 | exact k10 | exact k11 | exact k12 | exact k13 | exact k14 | exact k15 | exact k16 | exact k17 | exact k18 | exact k19 | exact k20 | exact k21 | exact k22 | exact k23 | exact k24) ?_
            simp only [Act.put, List.setIfInBounds_toArray, List.set_cons_succ, List.set_cons_zero]
            go_big_quiet_on)
         | (refine quiet_load_W rfl rfl (fun w' hC => by obtain ⟨k0, k1, k2, k3, k4, k5, k6, k7, k8, k9, k10, k11, k12, k13, k14, k15, k16, k17, k18, k19, k20, k21, k22, k23, k24, k25⟩ := hC; first | exact k0 | exact k1 | exact k2 | exact k3 | exact k4 | exact k5 | exact k6 | exact k7 | exact k8 | exact k9 | exact k10 | exact k11 | exact k12 | exact k13 | exact k14 | exact k15 | exact k16 | exact k17 | exact k18 | exact k19 | exact k20 | exact k21 | exact k22 | exact k23 | exact k24) ?_
            simp only [Act.put, List.setIfInBounds_toArray, List.set_cons_succ, List.set_cons_zero]
            go_big_quiet_on)
         | (go_big_quiet_op
            first
              | go_big_quiet_on
              | (apply Exists.intro
                 refine ⟨fun w' hC => ?_, ?_⟩
                 · (first | (go_at_call 16; (with_reducible refine (vptr_c' _ _ _ _ _ _ _ _).mono ?_); rintro e w1 ⟨rfl, hb1⟩) | (go_at_call 12; (with_reducible refine (vright_c' _ _ _ _ _ _ _ _).mono ?_); rintro e w1 ⟨rfl, hb1⟩) | (go_at_call 20; (with_reducible refine (rfright_c' _ _ _ _ _).mono ?_); rintro e w1 ⟨rfl, hb1⟩))
                   (try simp only [Vl.eta, Tn.eta, Sp.eta, Fa.eta, ho, hp, hr])
                   exact ⟨rfl, by first | exact hC | exact VKdC_keep _ _ hC hb1⟩
                 go_big_quiet_on))))
  refine wpQuiet_nil ?_
  intro w9 hC
  obtain ⟨k0, k1, k2, k3, k4, k5, k6, k7, k8, k9, k10, k11, k12, k13, k14, k15, k16, k17, k18, k19, k20, k21, k22, k23, k24, k25⟩ := hC
  have z0 := cell_lt k0
  have z4 := cell_lt k4
  have z11 := cell_lt k11
  have z18 := cell_lt k18
  go_wp2_with (first | (go_at_call 18; (with_reducible refine (vis_c' _ _ _ _ _ _ _ _ _ _).mono ?_); rintro e w1 ⟨rfl, hb1⟩; obtain ⟨hc1, hf1, hz1⟩ := bcell hb1; (try simp only [World.size_alloc, World.size_setCell, World.size_drew] at hc1 hf1 hz1)))
  all_goals (go_ret; refine ⟨?_, (by repeat' (first | (with_reducible exact Below.refl _ _) | (with_reducible assumption) | (with_reducible refine Below.alloc ?_ ?_ _) | (with_reducible refine Below.setCell ?_ ?_ _) | (with_reducible refine Below.drew ?_) | (with_reducible refine below_dn ?_ _) | (with_reducible refine Below.trans ?_ (Below.mono (by assumption) ?_)) | go_size))⟩; first | rfl | (simp; apply Classical.byContradiction; intro hc; simp only [not_or] at hc; obtain ⟨⟨hk1, hk2⟩, ⟨⟨hk3, hk4⟩, hk5⟩, hk6⟩ := hc; apply Vl.kinds_no (a := a) (b := b) (n := n) <;> first | assumption | (simp_all; done) | (simp_all; omega)) | (exfalso; apply Vl.kinds_no (a := a) (b := b) (n := n) <;> first | assumption | (simp_all; done) | (simp_all; omega)))

set_option maxHeartbeats 8000000 in
theorem valKinds_n (f : Fa) (a b : Vl) (n : BitVec 64) (ho : Fa.ok f = false) (hv : Vl.num f = (⟨0, ⟨⟨0#64, 0#64⟩, ⟨0#64, 0#64⟩⟩, 0, 0⟩ : Vl)) (hp : Vl.ptr (⟨0, ⟨⟨0#64, 0#64⟩, ⟨0#64, 0#64⟩⟩, 0, 0⟩ : Vl) = false) (hr : Vl.right (⟨0, ⟨⟨0#64, 0#64⟩, ⟨0#64, 0#64⟩⟩, 0, 0⟩ : Vl) = true) (w : World) : Calls Try.prog 5 #[.agg #[.int .u64 (N f.t.v), .int .u64 (N f.t.m), .int .u64 (N f.s.lo), .int .u64 (N f.s.hi)], .agg #[.int .u8 a.k, .int .u64 (N a.f.t.v), .int .u64 (N a.f.t.m), .int .u64 (N a.f.s.lo), .int .u64 (N a.f.s.hi), .int .i64 a.i, .int .i64 a.off], .agg #[.int .u8 b.k, .int .u64 (N b.f.t.v), .int .u64 (N b.f.t.m), .int .u64 (N b.f.s.lo), .int .u64 (N b.f.s.hi), .int .i64 b.i, .int .i64 b.off], .int .u64 (N n)] w fun e w' => e = .returned (.bool true) ∧ Below w.heap.size w w' := by
  go_enter Try.func5, Try.ntmps5
  go_wp2_with fail
  refine (vshown_c _).mono ?_
  rintro e wS ⟨rfl, hbwS⟩
  obtain ⟨hcwS, hfwS, hzwS⟩ := bcell hbwS
  (try simp only [World.size_alloc, World.size_setCell, World.size_drew] at hcwS hfwS hzwS)
  go_wp2_with fail
  refine (vnum_c' _ _ _ _ _).mono ?_
  rintro e wN ⟨rfl, hbwN⟩
  obtain ⟨hcwN, hfwN, hzwN⟩ := bcell hbwN
  (try simp only [World.size_alloc, World.size_setCell, World.size_drew] at hcwN hfwN hzwN)
  simp only [Vl.eta, Tn.eta, Sp.eta, Fa.eta, hv]
  go_wp2_with fail
  refine wp_region_class (VKdC f a b (⟨0, ⟨⟨0#64, 0#64⟩, ⟨0#64, 0#64⟩⟩, 0, 0⟩ : Vl) w wN) (by kernel_rfl) (by kernel_rfl) ?_ ?_
  · refine ⟨?_, ?_, ?_, ?_, ?_, ?_, ?_, ?_, ?_, ?_, ?_, ?_, ?_, ?_, ?_, ?_, ?_, ?_, ?_, ?_, ?_, ?_, ?_, ?_, ?_, (by repeat' (first | (with_reducible exact Below.refl _ _) | (with_reducible assumption) | (with_reducible refine Below.alloc ?_ ?_ _) | (with_reducible refine Below.setCell ?_ ?_ _) | (with_reducible refine Below.drew ?_) | (with_reducible refine below_dn ?_ _) | (with_reducible refine Below.trans ?_ (Below.mono (by assumption) ?_)) | go_size))⟩
    all_goals first | (intro i; simp [*, go_sem, ↓IntWalk.iteOmega]; done) | (simp [*, go_sem, ↓IntWalk.iteOmega]; done)
  clear hbwS hcwS hfwS hzwS hbwN hcwN hfwN hzwN
  intro hN
  (try simp only [List.append])
  repeat (first
    | go_big_quiet_skip
    | (go_big_quiet_want
       first
         | (refine quiet_load_Val rfl rfl (fun w' hC => by obtain ⟨k0, k1, k2, k3, k4, k5, k6, k7, k8, k9, k10, k11, k12, k13, k14, k15, k16, k17, k18, k19, k20, k21, k22, k23, k24, k25⟩ := hC; first | exact ⟨k0, k1, k2, k3, k4, k5, k6⟩ | exact ⟨k1, k2, k3, k4, k5, k6, k7⟩ | exact ⟨k2, k3, k4, k5, k6, k7, k8⟩ | exact ⟨k3, k4, k5, k6, k7, k8, k9⟩ | exact ⟨k4, k5, k6, k7, k8, k9, k10⟩ | exact ⟨k5, k6, k7, k8, k9, k10, k11⟩ | exact ⟨k6, k7, k8, k9, k10, k11, k12⟩ | exact ⟨k7, k8, k9, k10, k11, k12, k13⟩ | exact ⟨k8, k9, k10, k11, k12, k13, k14⟩ | exact ⟨k9, k10, k11, k12, k13, k14, k15⟩ | exact ⟨k10, k11, k12, k13, k14, k15, k16⟩ | exact ⟨k11, k12, k13, k14, k15, k16, k17⟩ | exact ⟨k12, k13, k14, k15, k16, k17, k18⟩ | exact ⟨k13, k14, k15, k16, k17, k18, k19⟩ | exact ⟨k14, k15, k16, k17, k18, k19, k20⟩ | exact ⟨k15, k16, k17, k18, k19, k20, k21⟩ | exact ⟨k16, k17, k18, k19, k20, k21, k22⟩ | exact ⟨k17, k18, k19, k20, k21, k22, k23⟩ | exact ⟨k18, k19, k20, k21, k22, k23, k24⟩) ?_
            simp only [Act.put, List.setIfInBounds_toArray, List.set_cons_succ, List.set_cons_zero]
            go_big_quiet_on)
         | (refine quiet_load_Fa rfl rfl (fun w' hC => by obtain ⟨k0, k1, k2, k3, k4, k5, k6, k7, k8, k9, k10, k11, k12, k13, k14, k15, k16, k17, k18, k19, k20, k21, k22, k23, k24, k25⟩ := hC; first | exact ⟨k0, k1, k2, k3⟩ | exact ⟨k1, k2, k3, k4⟩ | exact ⟨k2, k3, k4, k5⟩ | exact ⟨k3, k4, k5, k6⟩ | exact ⟨k4, k5, k6, k7⟩ | exact ⟨k5, k6, k7, k8⟩ | exact ⟨k6, k7, k8, k9⟩ | exact ⟨k7, k8, k9, k10⟩ | exact ⟨k8, k9, k10, k11⟩ | exact ⟨k9, k10, k11, k12⟩ | exact ⟨k10, k11, k12, k13⟩ | exact ⟨k11, k12, k13, k14⟩ | exact ⟨k12, k13, k14, k15⟩ | exact ⟨k13, k14, k15, k16⟩ | exact ⟨k14, k15, k16, k17⟩ | exact ⟨k15, k16, k17, k18⟩ | exact ⟨k16, k17, k18, k19⟩ | exact ⟨k17, k18, k19, k20⟩ | exact ⟨k18, k19, k20, k21⟩ | exact ⟨k19, k20, k21, k22⟩ | exact ⟨k20, k21, k22, k23⟩ | exact ⟨k21, k22, k23, k24⟩) ?_
            simp only [Act.put, List.setIfInBounds_toArray, List.set_cons_succ, List.set_cons_zero]
            go_big_quiet_on)
         | (refine quiet_load_B8 rfl rfl (fun w' hC => by obtain ⟨k0, k1, k2, k3, k4, k5, k6, k7, k8, k9, k10, k11, k12, k13, k14, k15, k16, k17, k18, k19, k20, k21, k22, k23, k24, k25⟩ := hC; first | exact k0 | exact k1 | exact k2 | exact k3 | exact k4 | exact k5 | exact k6 | exact k7 | exact k8 | exact k9 | exact k10 | exact k11 | exact k12 | exact k13 | exact k14 | exact k15 | exact k16 | exact k17 | exact k18 | exact k19 | exact k20 | exact k21 | exact k22 | exact k23 | exact k24) ?_
            simp only [Act.put, List.setIfInBounds_toArray, List.set_cons_succ, List.set_cons_zero]
            go_big_quiet_on)
         | (refine quiet_load_W rfl rfl (fun w' hC => by obtain ⟨k0, k1, k2, k3, k4, k5, k6, k7, k8, k9, k10, k11, k12, k13, k14, k15, k16, k17, k18, k19, k20, k21, k22, k23, k24, k25⟩ := hC; first | exact k0 | exact k1 | exact k2 | exact k3 | exact k4 | exact k5 | exact k6 | exact k7 | exact k8 | exact k9 | exact k10 | exact k11 | exact k12 | exact k13 | exact k14 | exact k15 | exact k16 | exact k17 | exact k18 | exact k19 | exact k20 | exact k21 | exact k22 | exact k23 | exact k24) ?_
            simp only [Act.put, List.setIfInBounds_toArray, List.set_cons_succ, List.set_cons_zero]
            go_big_quiet_on)
         | (go_big_quiet_op
            first
              | go_big_quiet_on
              | (apply Exists.intro
                 refine ⟨fun w' hC => ?_, ?_⟩
                 · (first | (go_at_call 16; (with_reducible refine (vptr_c' _ _ _ _ _ _ _ _).mono ?_); rintro e w1 ⟨rfl, hb1⟩) | (go_at_call 12; (with_reducible refine (vright_c' _ _ _ _ _ _ _ _).mono ?_); rintro e w1 ⟨rfl, hb1⟩) | (go_at_call 20; (with_reducible refine (rfright_c' _ _ _ _ _).mono ?_); rintro e w1 ⟨rfl, hb1⟩))
                   (try simp only [Vl.eta, Tn.eta, Sp.eta, Fa.eta, ho, hp, hr])
                   exact ⟨rfl, by first | exact hC | exact VKdC_keep _ _ hC hb1⟩
                 go_big_quiet_on))))
  refine wpQuiet_nil ?_
  intro w9 hC
  obtain ⟨k0, k1, k2, k3, k4, k5, k6, k7, k8, k9, k10, k11, k12, k13, k14, k15, k16, k17, k18, k19, k20, k21, k22, k23, k24, k25⟩ := hC
  have z0 := cell_lt k0
  have z4 := cell_lt k4
  have z11 := cell_lt k11
  have z18 := cell_lt k18
  go_wp2_with (first | (go_at_call 18; (with_reducible refine (vis_c' _ _ _ _ _ _ _ _ _ _).mono ?_); rintro e w1 ⟨rfl, hb1⟩; obtain ⟨hc1, hf1, hz1⟩ := bcell hb1; (try simp only [World.size_alloc, World.size_setCell, World.size_drew] at hc1 hf1 hz1)))
  all_goals (go_ret; refine ⟨?_, (by repeat' (first | (with_reducible exact Below.refl _ _) | (with_reducible assumption) | (with_reducible refine Below.alloc ?_ ?_ _) | (with_reducible refine Below.setCell ?_ ?_ _) | (with_reducible refine Below.drew ?_) | (with_reducible refine below_dn ?_ _) | (with_reducible refine Below.trans ?_ (Below.mono (by assumption) ?_)) | go_size))⟩; first | rfl | (simp; apply Classical.byContradiction; intro hc; simp only [not_or] at hc; obtain ⟨⟨hk1, hk2⟩, ⟨⟨hk3, hk4⟩, hk5⟩, hk6⟩ := hc; apply Vl.kinds_no (a := a) (b := b) (n := n) <;> first | assumption | (simp_all; done) | (simp_all; omega)) | (exfalso; apply Vl.kinds_no (a := a) (b := b) (n := n) <;> first | assumption | (simp_all; done) | (simp_all; omega)))

theorem valKinds_walk (f : Fa) (a : Vl) (_ : 0 ≤ a.k ∧ a.k ≤ 255) (_ : -9223372036854775808 ≤ a.i ∧ a.i ≤ 9223372036854775807) (_ : -9223372036854775808 ≤ a.off ∧ a.off ≤ 9223372036854775807) (b : Vl) (_ : 0 ≤ b.k ∧ b.k ≤ 255) (_ : -9223372036854775808 ≤ b.i ∧ b.i ≤ 9223372036854775807) (_ : -9223372036854775808 ≤ b.off ∧ b.off ≤ 9223372036854775807) (n : BitVec 64) (w : World) : Calls Try.prog 5 #[.agg #[.int .u64 (N f.t.v), .int .u64 (N f.t.m), .int .u64 (N f.s.lo), .int .u64 (N f.s.hi)], .agg #[.int .u8 a.k, .int .u64 (N a.f.t.v), .int .u64 (N a.f.t.m), .int .u64 (N a.f.s.lo), .int .u64 (N a.f.s.hi), .int .i64 a.i, .int .i64 a.off], .agg #[.int .u8 b.k, .int .u64 (N b.f.t.v), .int .u64 (N b.f.t.m), .int .u64 (N b.f.s.lo), .int .u64 (N b.f.s.hi), .int .i64 b.i, .int .i64 b.off], .int .u64 (N n)] w fun e w' => e = .returned (.bool true) ∧ Below w.heap.size w w' := by
  cases ho : Fa.ok f
  · exact valKinds_n f a b n ho (by unfold Vl.num; rw [if_neg (by rw [ho]; decide)]; rfl) (by decide +kernel) (by decide +kernel) w
  · exact valKinds_y f a b n ho (by unfold Vl.num; rw [if_pos ho]) (by simp [Vl.ptr]) (by simp [Vl.right, Vl.reach, ho]) w

end Hk
