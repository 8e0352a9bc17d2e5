/- Package fact: Do; old memory is as it was. No condition but those in each statement. -/
import Derived.Test.YtmhkngblpojeaaaProg
import Derived.Test.YtmhkngblpojeaaaGp
import Derived.Test.YtmhkngblpojeaaaGf
import Derived.Test.YtmhkngblpojeaaaFa5
import Derived.Test.YtmhkngblpojeaaaGa
import Derived.Test.YtmhkngblpojeaaaFa11
import Derived.Test.YtmhkngblpojeaaaGl
namespace Hk
open Go Go.RowKit Go.Proofs
set_option linter.unusedSimpArgs false
set_option linter.unusedVariables false
set_option maxRecDepth 100000
attribute [go_sem] Tn.eta Alu.val_some Alu.err_some Alu.val_none Alu.err_none
set_option maxHeartbeats 1000000 in
theorem fdo_no0 (op off : Int) (a b : Fa) (wd : Bool) (h0 : Alu.go op wd off 0#64 0#64 = none) (w : World) : Calls Try.prog 14 #[.int .u8 op, .bool wd, .int .i16 off, .agg #[.int .u64 (N a.t.v), .int .u64 (N a.t.m), .int .u64 (N a.s.lo), .int .u64 (N a.s.hi)], .agg #[.int .u64 (N b.t.v), .int .u64 (N b.t.m), .int .u64 (N b.s.lo), .int .u64 (N b.s.hi)]] w fun e w' => e = .returned (.tuple #[.agg #[.int .u64 (N ((Fa.do_ op wd off a b).getD Fa.zero).t.v), .int .u64 (N ((Fa.do_ op wd off a b).getD Fa.zero).t.m), .int .u64 (N ((Fa.do_ op wd off a b).getD Fa.zero).s.lo), .int .u64 (N ((Fa.do_ op wd off a b).getD Fa.zero).s.hi)], .int .i64 (if (Fa.do_ op wd off a b).isSome then 0 else 1)]) ∧ Below w.heap.size w w' := by
  have E : Fa.do_ op wd off a b = none := Fa.fdo_no0 h0
  rw [E]; clear E
  simp only [Option.getD_some, Option.getD_none, Option.isSome_some, Option.isSome_none, if_true, Bool.false_eq_true, if_false]
  go_enter Try.func14, Try.ntmps14
  go_wp2_with (first | (go_at_call 41; (with_reducible refine (ado_c _ _ _ _ _ _).mono ?_); rintro e w1 ⟨rfl, rfl⟩))
  refine bodyPost_ret ?_ rfl ⟨rfl, (by repeat' (first | (with_reducible exact Below.refl _ _) | (with_reducible assumption) | (with_reducible refine Below.alloc ?_ ?_ _) | (with_reducible refine Below.setCell ?_ ?_ _) | (with_reducible refine Below.drew ?_) | (with_reducible refine below_dn ?_ _) | (with_reducible refine Below.trans ?_ (Below.mono (by assumption) ?_)) | go_size))⟩
  simp only [results, Try.results14]; simp [*, go_sem, ↓IntWalk.iteOmega, Fa.zero]; try (first | rfl | exact ⟨rfl, rfl⟩)

set_option maxHeartbeats 1000000 in
theorem fdo_no1 (op off : Int) (a b : Fa) (wd : Bool) (z : BitVec 64) (h0 : Alu.go op wd off 0#64 0#64 = some z) (h1 : Fa.ok a = false) (w : World) : Calls Try.prog 14 #[.int .u8 op, .bool wd, .int .i16 off, .agg #[.int .u64 (N a.t.v), .int .u64 (N a.t.m), .int .u64 (N a.s.lo), .int .u64 (N a.s.hi)], .agg #[.int .u64 (N b.t.v), .int .u64 (N b.t.m), .int .u64 (N b.s.lo), .int .u64 (N b.s.hi)]] w fun e w' => e = .returned (.tuple #[.agg #[.int .u64 (N ((Fa.do_ op wd off a b).getD Fa.zero).t.v), .int .u64 (N ((Fa.do_ op wd off a b).getD Fa.zero).t.m), .int .u64 (N ((Fa.do_ op wd off a b).getD Fa.zero).s.lo), .int .u64 (N ((Fa.do_ op wd off a b).getD Fa.zero).s.hi)], .int .i64 (if (Fa.do_ op wd off a b).isSome then 0 else 1)]) ∧ Below w.heap.size w w' := by
  have E : Fa.do_ op wd off a b = none := Fa.fdo_no1 h1
  rw [E]; clear E
  simp only [Option.getD_some, Option.getD_none, Option.isSome_some, Option.isSome_none, if_true, Bool.false_eq_true, if_false]
  go_enter Try.func14, Try.ntmps14
  go_wp2_with (first | (go_at_call 41; (with_reducible refine (ado_c _ _ _ _ _ _).mono ?_); rintro e w1 ⟨rfl, rfl⟩) | (go_at_call 22; (with_reducible refine (fright_c' _ _ _ _ _).mono ?_); rintro e w1 ⟨rfl, hb1⟩; obtain ⟨hc1, hf1, hz1⟩ := bcell hb1; (try simp only [World.size_alloc, World.size_setCell, World.size_drew] at hc1 hf1 hz1)))
  refine bodyPost_ret ?_ rfl ⟨rfl, (by repeat' (first | (with_reducible exact Below.refl _ _) | (with_reducible assumption) | (with_reducible refine Below.alloc ?_ ?_ _) | (with_reducible refine Below.setCell ?_ ?_ _) | (with_reducible refine Below.drew ?_) | (with_reducible refine below_dn ?_ _) | (with_reducible refine Below.trans ?_ (Below.mono (by assumption) ?_)) | go_size))⟩
  simp only [results, Try.results14]; simp [*, go_sem, ↓IntWalk.iteOmega, Fa.zero]; try (first | rfl | exact ⟨rfl, rfl⟩)

set_option maxHeartbeats 1000000 in
theorem fdo_no2 (op off : Int) (a b : Fa) (wd : Bool) (z : BitVec 64) (h0 : Alu.go op wd off 0#64 0#64 = some z) (h1 : Fa.ok a = true) (h2 : Fa.ok b = false) (w : World) : Calls Try.prog 14 #[.int .u8 op, .bool wd, .int .i16 off, .agg #[.int .u64 (N a.t.v), .int .u64 (N a.t.m), .int .u64 (N a.s.lo), .int .u64 (N a.s.hi)], .agg #[.int .u64 (N b.t.v), .int .u64 (N b.t.m), .int .u64 (N b.s.lo), .int .u64 (N b.s.hi)]] w fun e w' => e = .returned (.tuple #[.agg #[.int .u64 (N ((Fa.do_ op wd off a b).getD Fa.zero).t.v), .int .u64 (N ((Fa.do_ op wd off a b).getD Fa.zero).t.m), .int .u64 (N ((Fa.do_ op wd off a b).getD Fa.zero).s.lo), .int .u64 (N ((Fa.do_ op wd off a b).getD Fa.zero).s.hi)], .int .i64 (if (Fa.do_ op wd off a b).isSome then 0 else 1)]) ∧ Below w.heap.size w w' := by
  have E : Fa.do_ op wd off a b = none := Fa.fdo_no2 h2
  rw [E]; clear E
  simp only [Option.getD_some, Option.getD_none, Option.isSome_some, Option.isSome_none, if_true, Bool.false_eq_true, if_false]
  go_enter Try.func14, Try.ntmps14
  go_wp2_with (first | (go_at_call 41; (with_reducible refine (ado_c _ _ _ _ _ _).mono ?_); rintro e w1 ⟨rfl, rfl⟩) | (go_at_call 22; (with_reducible refine (fright_c' _ _ _ _ _).mono ?_); rintro e w1 ⟨rfl, hb1⟩; obtain ⟨hc1, hf1, hz1⟩ := bcell hb1; (try simp only [World.size_alloc, World.size_setCell, World.size_drew] at hc1 hf1 hz1)))
  refine bodyPost_ret ?_ rfl ⟨rfl, (by repeat' (first | (with_reducible exact Below.refl _ _) | (with_reducible assumption) | (with_reducible refine Below.alloc ?_ ?_ _) | (with_reducible refine Below.setCell ?_ ?_ _) | (with_reducible refine Below.drew ?_) | (with_reducible refine below_dn ?_ _) | (with_reducible refine Below.trans ?_ (Below.mono (by assumption) ?_)) | go_size))⟩
  simp only [results, Try.results14]; simp [*, go_sem, ↓IntWalk.iteOmega, Fa.zero]; try (first | rfl | exact ⟨rfl, rfl⟩)

set_option maxHeartbeats 1000000 in
theorem fdo_w (op off : Int) (a b : Fa) (z : BitVec 64) (h0 : Alu.go op true off 0#64 0#64 = some z) (h1 : Fa.ok a = true) (h2 : Fa.ok b = true) (w : World) : Calls Try.prog 14 #[.int .u8 op, .bool true, .int .i16 off, .agg #[.int .u64 (N a.t.v), .int .u64 (N a.t.m), .int .u64 (N a.s.lo), .int .u64 (N a.s.hi)], .agg #[.int .u64 (N b.t.v), .int .u64 (N b.t.m), .int .u64 (N b.s.lo), .int .u64 (N b.s.hi)]] w fun e w' => e = .returned (.tuple #[.agg #[.int .u64 (N ((Fa.do_ op true off a b).getD Fa.zero).t.v), .int .u64 (N ((Fa.do_ op true off a b).getD Fa.zero).t.m), .int .u64 (N ((Fa.do_ op true off a b).getD Fa.zero).s.lo), .int .u64 (N ((Fa.do_ op true off a b).getD Fa.zero).s.hi)], .int .i64 (if (Fa.do_ op true off a b).isSome then 0 else 1)]) ∧ Below w.heap.size w w' := by
  have E : Fa.do_ op true off a b = some (Fa.makes op true off a b) := Fa.fdo_w h0 h1 h2
  rw [E]; clear E
  simp only [Option.getD_some, Option.getD_none, Option.isSome_some, Option.isSome_none, if_true, Bool.false_eq_true, if_false]
  go_enter Try.func14, Try.ntmps14
  go_wp2_with (first | (go_at_call 41; (with_reducible refine (ado_c _ _ _ _ _ _).mono ?_); rintro e w1 ⟨rfl, rfl⟩) | (go_at_call 22; (with_reducible refine (fright_c' _ _ _ _ _).mono ?_); rintro e w1 ⟨rfl, hb1⟩; obtain ⟨hc1, hf1, hz1⟩ := bcell hb1; (try simp only [World.size_alloc, World.size_setCell, World.size_drew] at hc1 hf1 hz1)) | (go_at_call 42; (with_reducible refine (makes_c' _ _ _ _ _ _ _ _ _ _ _ _).mono ?_); rintro e w1 ⟨rfl, hb1⟩; obtain ⟨hc1, hf1, hz1⟩ := bcell hb1; (try simp only [World.size_alloc, World.size_setCell, World.size_drew] at hc1 hf1 hz1)))
  refine bodyPost_ret ?_ rfl ⟨rfl, (by repeat' (first | (with_reducible exact Below.refl _ _) | (with_reducible assumption) | (with_reducible refine Below.alloc ?_ ?_ _) | (with_reducible refine Below.setCell ?_ ?_ _) | (with_reducible refine Below.drew ?_) | (with_reducible refine below_dn ?_ _) | (with_reducible refine Below.trans ?_ (Below.mono (by assumption) ?_)) | go_size))⟩
  simp only [results, Try.results14]; simp [*, go_sem, ↓IntWalk.iteOmega, Fa.zero]; try (first | rfl | exact ⟨rfl, rfl⟩)

def FDoC (a b z : Fa) (w : World) (w' : World) : Prop := w'.cell? ⟨w.heap.size, 0, none⟩ = some (.int .u64 (N a.t.v)) ∧ w'.cell? ⟨w.heap.size, 1, none⟩ = some (.int .u64 (N a.t.m)) ∧ w'.cell? ⟨w.heap.size, 2, none⟩ = some (.int .u64 (N a.s.lo)) ∧ w'.cell? ⟨w.heap.size, 3, none⟩ = some (.int .u64 (N a.s.hi)) ∧ w'.cell? ⟨w.heap.size + 1, 0, none⟩ = some (.int .u64 (N b.t.v)) ∧ w'.cell? ⟨w.heap.size + 1, 1, none⟩ = some (.int .u64 (N b.t.m)) ∧ w'.cell? ⟨w.heap.size + 1, 2, none⟩ = some (.int .u64 (N b.s.lo)) ∧ w'.cell? ⟨w.heap.size + 1, 3, none⟩ = some (.int .u64 (N b.s.hi)) ∧ w'.cell? ⟨w.heap.size + 1 + 1, 0, none⟩ = some (.int .u64 (N z.t.v)) ∧ w'.cell? ⟨w.heap.size + 1 + 1, 1, none⟩ = some (.int .u64 (N z.t.m)) ∧ w'.cell? ⟨w.heap.size + 1 + 1, 2, none⟩ = some (.int .u64 (N z.s.lo)) ∧ w'.cell? ⟨w.heap.size + 1 + 1, 3, none⟩ = some (.int .u64 (N z.s.hi)) ∧ (∀ i, w'.frozen? ⟨w.heap.size + 1 + 1, i, none⟩ = false) ∧ Below w.heap.size w w'
theorem FDoC_keep {a b z : Fa} {w : World} (w' w1 : World) (h : FDoC a b z w w') (hb : Below w'.heap.size w' w1) : FDoC a b z w w1 := by
  obtain ⟨k0, k1, k2, k3, k4, k5, k6, k7, k8, k9, k10, k11, k12, k13⟩ := h
  exact ⟨cell_keep hb k0, cell_keep hb k1, cell_keep hb k2, cell_keep hb k3, cell_keep hb k4, cell_keep hb k5, cell_keep hb k6, cell_keep hb k7, cell_keep hb k8, cell_keep hb k9, cell_keep hb k10, cell_keep hb k11, frozen_keep hb k8 k12, below_next k13 hb⟩

set_option maxHeartbeats 1000000 in
theorem fdo_n (op off : Int) (a b : Fa) (z : BitVec 64) (h0 : Alu.go op false off 0#64 0#64 = some z) (h1 : Fa.ok a = true) (h2 : Fa.ok b = true) (w : World) : Calls Try.prog 14 #[.int .u8 op, .bool false, .int .i16 off, .agg #[.int .u64 (N a.t.v), .int .u64 (N a.t.m), .int .u64 (N a.s.lo), .int .u64 (N a.s.hi)], .agg #[.int .u64 (N b.t.v), .int .u64 (N b.t.m), .int .u64 (N b.s.lo), .int .u64 (N b.s.hi)]] w fun e w' => e = .returned (.tuple #[.agg #[.int .u64 (N ((Fa.do_ op false off a b).getD Fa.zero).t.v), .int .u64 (N ((Fa.do_ op false off a b).getD Fa.zero).t.m), .int .u64 (N ((Fa.do_ op false off a b).getD Fa.zero).s.lo), .int .u64 (N ((Fa.do_ op false off a b).getD Fa.zero).s.hi)], .int .i64 (if (Fa.do_ op false off a b).isSome then 0 else 1)]) ∧ Below w.heap.size w w' := by
  have E : Fa.do_ op false off a b = some (Fa.cut (Fa.makes op false off (Fa.cut a) (Fa.cut b))) := Fa.fdo_n h0 h1 h2
  rw [E]; clear E
  simp only [Option.getD_some, Option.getD_none, Option.isSome_some, Option.isSome_none, if_true, Bool.false_eq_true, if_false]
  go_enter Try.func14, Try.ntmps14
  go_wp2_with (first | (go_at_call 41; (with_reducible refine (ado_c _ _ _ _ _ _).mono ?_); rintro e w1 ⟨rfl, rfl⟩) | (go_at_call 22; (with_reducible refine (fright_c' _ _ _ _ _).mono ?_); rintro e w1 ⟨rfl, hb1⟩; obtain ⟨hc1, hf1, hz1⟩ := bcell hb1; (try simp only [World.size_alloc, World.size_setCell, World.size_drew] at hc1 hf1 hz1)))
  refine wp_region_class_tail (FDoC a b Fa.zero w) 9 (by kernel_rfl) (by kernel_rfl) ?_ ?_
  · refine ⟨?_, ?_, ?_, ?_, ?_, ?_, ?_, ?_, ?_, ?_, ?_, ?_, ?_, (by repeat' (first | (with_reducible exact Below.refl _ _) | (with_reducible assumption) | (with_reducible refine Below.alloc ?_ ?_ _) | (with_reducible refine Below.setCell ?_ ?_ _) | (with_reducible refine Below.drew ?_) | (with_reducible refine below_dn ?_ _) | (with_reducible refine Below.trans ?_ (Below.mono (by assumption) ?_)) | go_size))⟩
    all_goals first | (intro i; simp [*, go_sem, ↓IntWalk.iteOmega]; done) | (simp [*, go_sem, ↓IntWalk.iteOmega]; done)
  intro hN
  (try simp only [List.append])
  simp only [List.take_succ_cons, List.take_zero, List.drop_succ_cons, List.drop_zero]
  repeat (first
    | go_big_quiet_skip
    | (go_big_quiet_want
       first
         | (refine quiet_load_Fa rfl rfl (fun w' hC => by obtain ⟨k0, k1, k2, k3, k4, k5, k6, k7, k8, k9, k10, k11, k12, k13⟩ := hC; first | exact ⟨k0, k1, k2, k3⟩ | exact ⟨k1, k2, k3, k4⟩ | exact ⟨k2, k3, k4, k5⟩ | exact ⟨k3, k4, k5, k6⟩ | exact ⟨k4, k5, k6, k7⟩ | exact ⟨k5, k6, k7, k8⟩ | exact ⟨k6, k7, k8, k9⟩ | exact ⟨k7, k8, k9, k10⟩ | exact ⟨k8, k9, k10, k11⟩) ?_
            simp only [Act.put, List.setIfInBounds_toArray, List.set_cons_succ, List.set_cons_zero]
            go_big_quiet_on)
         | (refine quiet_load_W rfl rfl (fun w' hC => by obtain ⟨k0, k1, k2, k3, k4, k5, k6, k7, k8, k9, k10, k11, k12, k13⟩ := hC; first | exact k0 | exact k1 | exact k2 | exact k3 | exact k4 | exact k5 | exact k6 | exact k7 | exact k8 | exact k9 | exact k10 | exact k11) ?_
            simp only [Act.put, List.setIfInBounds_toArray, List.set_cons_succ, List.set_cons_zero]
            go_big_quiet_on)
         | (go_big_quiet_op
            first
              | go_big_quiet_on
              | (apply Exists.intro
                 refine ⟨fun w' hC => ?_, ?_⟩
                 · (first | (go_at_call 33; (with_reducible refine (fcut_c' _ _ _ _ _).mono ?_); rintro e w1 ⟨rfl, hb1⟩) | (go_at_call 42; (with_reducible refine (makes_c' _ _ _ _ _ _ _ _ _ _ _ _).mono ?_); rintro e w1 ⟨rfl, hb1⟩))
                   (try simp only [Tn.eta, Sp.eta, Fa.eta])
                   exact ⟨rfl, by first | exact hC | exact FDoC_keep _ _ hC hb1⟩
                 go_big_quiet_on))))
  refine wpQuiet_nil ?_
  intro w9 hC
  obtain ⟨k0, k1, k2, k3, k4, k5, k6, k7, k8, k9, k10, k11, k12, k13⟩ := hC
  have z0 := cell_lt k0
  have z4 := cell_lt k4
  have z8 := cell_lt k8
  go_wp2
  refine bodyPost_ret ?_ rfl ⟨rfl, (by repeat' (first | (with_reducible exact Below.refl _ _) | (with_reducible assumption) | (with_reducible refine Below.alloc ?_ ?_ _) | (with_reducible refine Below.setCell ?_ ?_ _) | (with_reducible refine Below.drew ?_) | (with_reducible refine below_dn ?_ _) | (with_reducible refine Below.trans ?_ (Below.mono (by assumption) ?_)) | go_size))⟩
  simp only [results, Try.results14]; simp [*, go_sem, ↓IntWalk.iteOmega, Fa.zero]; try (first | rfl | exact ⟨rfl, rfl⟩)

theorem fdo_c (op : Int) (wd : Bool) (off : Int) (a b : Fa) (w : World) : Calls Try.prog 14 #[.int .u8 op, .bool wd, .int .i16 off, .agg #[.int .u64 (N a.t.v), .int .u64 (N a.t.m), .int .u64 (N a.s.lo), .int .u64 (N a.s.hi)], .agg #[.int .u64 (N b.t.v), .int .u64 (N b.t.m), .int .u64 (N b.s.lo), .int .u64 (N b.s.hi)]] w fun e w' => e = .returned (.tuple #[.agg #[.int .u64 (N ((Fa.do_ op wd off a b).getD Fa.zero).t.v), .int .u64 (N ((Fa.do_ op wd off a b).getD Fa.zero).t.m), .int .u64 (N ((Fa.do_ op wd off a b).getD Fa.zero).s.lo), .int .u64 (N ((Fa.do_ op wd off a b).getD Fa.zero).s.hi)], .int .i64 (if (Fa.do_ op wd off a b).isSome then 0 else 1)]) ∧ Below w.heap.size w w' := by
  rcases h0 : Alu.go op wd off 0#64 0#64 with _ | z
  · exact fdo_no0 op off a b wd h0 w
  cases h1 : Fa.ok a
  · exact fdo_no1 op off a b wd z h0 h1 w
  cases h2 : Fa.ok b
  · exact fdo_no2 op off a b wd z h0 h1 h2 w
  cases wd
  · exact fdo_n op off a b z h0 h1 h2 w
  · exact fdo_w op off a b z h0 h1 h2 w

theorem fdo_c' (x0 : Int) (x1 : Bool) (x2 : Int) (x3 y3 z3 u3 : BitVec 64) (x4 y4 z4 u4 : BitVec 64) (w : World) : Calls Try.prog 14 #[.int .u8 x0, .bool x1, .int .i16 x2, .agg #[.int .u64 (N x3), .int .u64 (N y3), .int .u64 (N z3), .int .u64 (N u3)], .agg #[.int .u64 (N x4), .int .u64 (N y4), .int .u64 (N z4), .int .u64 (N u4)]] w fun e w' => e = .returned (.tuple #[.agg #[.int .u64 (N ((Fa.do_ x0 x1 x2 (⟨⟨x3, y3⟩, ⟨z3, u3⟩⟩ : Fa) (⟨⟨x4, y4⟩, ⟨z4, u4⟩⟩ : Fa)).getD Fa.zero).t.v), .int .u64 (N ((Fa.do_ x0 x1 x2 (⟨⟨x3, y3⟩, ⟨z3, u3⟩⟩ : Fa) (⟨⟨x4, y4⟩, ⟨z4, u4⟩⟩ : Fa)).getD Fa.zero).t.m), .int .u64 (N ((Fa.do_ x0 x1 x2 (⟨⟨x3, y3⟩, ⟨z3, u3⟩⟩ : Fa) (⟨⟨x4, y4⟩, ⟨z4, u4⟩⟩ : Fa)).getD Fa.zero).s.lo), .int .u64 (N ((Fa.do_ x0 x1 x2 (⟨⟨x3, y3⟩, ⟨z3, u3⟩⟩ : Fa) (⟨⟨x4, y4⟩, ⟨z4, u4⟩⟩ : Fa)).getD Fa.zero).s.hi)], .int .i64 (if (Fa.do_ x0 x1 x2 (⟨⟨x3, y3⟩, ⟨z3, u3⟩⟩ : Fa) (⟨⟨x4, y4⟩, ⟨z4, u4⟩⟩ : Fa)).isSome then 0 else 1)]) ∧ Below w.heap.size w w' := by
  exact fdo_c x0 x1 x2 (⟨⟨x3, y3⟩, ⟨z3, u3⟩⟩ : Fa) (⟨⟨x4, y4⟩, ⟨z4, u4⟩⟩ : Fa) w

end Hk
