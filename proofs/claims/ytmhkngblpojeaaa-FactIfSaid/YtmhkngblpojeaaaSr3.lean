/- The reference of spans: If; old memory is as it was. No condition but those in each statement. -/
import Derived.Test.YtmhkngblpojeaaaProg
import Derived.Test.YtmhkngblpojeaaaGp
import Derived.Test.YtmhkngblpojeaaaGq
import Derived.Test.YtmhkngblpojeaaaGs
import Derived.Test.YtmhkngblpojeaaaGl
namespace Hk
open Go Go.RowKit Go.Proofs
set_option linter.unusedSimpArgs false
set_option linter.unusedVariables false
set_option maxRecDepth 100000
attribute [go_sem] Sp.eta
def RSIfC (a b z : Sp) (w : World) (w' : World) : Prop := w'.cell? ⟨w.heap.size, 0, none⟩ = some (.int .u64 (N a.lo)) ∧ w'.cell? ⟨w.heap.size, 1, none⟩ = some (.int .u64 (N a.hi)) ∧ w'.cell? ⟨w.heap.size + 1, 0, none⟩ = some (.int .u64 (N b.lo)) ∧ w'.cell? ⟨w.heap.size + 1, 1, none⟩ = some (.int .u64 (N b.hi)) ∧ w'.cell? ⟨w.heap.size + 1 + 1, 0, none⟩ = some (.int .u64 (N z.lo)) ∧ w'.cell? ⟨w.heap.size + 1 + 1, 1, none⟩ = some (.int .u64 (N z.hi)) ∧ (∀ i, w'.frozen? ⟨w.heap.size + 1 + 1, i, none⟩ = false) ∧ Below w.heap.size w w'
theorem RSIfC_keep {a b z : Sp} {w : World} (w' w1 : World) (h : RSIfC a b z w w') (hb : Below w'.heap.size w' w1) : RSIfC a b z w w1 := by
  obtain ⟨k0, k1, k2, k3, k4, k5, k6, k7⟩ := h
  exact ⟨cell_keep hb k0, cell_keep hb k1, cell_keep hb k2, cell_keep hb k3, cell_keep hb k4, cell_keep hb k5, frozen_keep hb k4 k6, below_next k7 hb⟩

@[go_sem] theorem field_hi (a b : Value) (w : World) : Sem.run Try.prog (Instr.field 27 (.agg #[a, b]) 1) w = .ok b w := by kernel_rfl

theorem rsif_no1 (op : Int) (a b : Sp) (h : a.right = false) (w : World) : Calls Try.prog 75 #[.int .u8 op, .agg #[.int .u64 (N a.lo), .int .u64 (N a.hi)], .agg #[.int .u64 (N b.lo), .int .u64 (N b.hi)]] w fun e w' => e = .returned (.tuple #[.agg #[.int .u64 (N ((Sp.if_ (op) a b).getD ⟨0, 0⟩).lo), .int .u64 (N ((Sp.if_ (op) a b).getD ⟨0, 0⟩).hi)], .bool (Sp.if_ (op) a b).isSome]) ∧ Below w.heap.size w w' := by
  have E : Sp.if_ op a b = none := by unfold Sp.if_; rw [h]; rfl
  rw [E]; clear E
  go_enter Try.func75, Try.ntmps75
  go_wp2_with (first | (go_at_call 96; (with_reducible refine (rsboth_c' _ _ _ _ _).mono ?_); rintro e w1 ⟨rfl, hb1⟩; obtain ⟨hc1, hf1, hz1⟩ := bcell hb1; (try simp only [World.size_alloc, World.size_setCell, World.size_drew] at hc1 hf1 hz1)))
  refine bodyPost_ret ?_ rfl ⟨rfl, (by repeat' (first | (with_reducible exact Below.refl _ _) | (with_reducible assumption) | (with_reducible refine Below.alloc ?_ ?_ _) | (with_reducible refine Below.setCell ?_ ?_ _) | (with_reducible refine Below.drew ?_) | (with_reducible refine below_dn ?_ _) | (with_reducible refine Below.trans ?_ (Below.mono (by assumption) ?_)) | go_size))⟩
  simp only [results, Try.results75]; simp [*, go_sem, ↓IntWalk.iteOmega]; try (first | rfl | exact ⟨rfl, rfl⟩)

theorem rsif_no2 (op : Int) (a b : Sp) (ha : a.right = true) (h : b.right = false) (w : World) : Calls Try.prog 75 #[.int .u8 op, .agg #[.int .u64 (N a.lo), .int .u64 (N a.hi)], .agg #[.int .u64 (N b.lo), .int .u64 (N b.hi)]] w fun e w' => e = .returned (.tuple #[.agg #[.int .u64 (N ((Sp.if_ (op) a b).getD ⟨0, 0⟩).lo), .int .u64 (N ((Sp.if_ (op) a b).getD ⟨0, 0⟩).hi)], .bool (Sp.if_ (op) a b).isSome]) ∧ Below w.heap.size w w' := by
  have E : Sp.if_ op a b = none := by unfold Sp.if_; rw [ha, h]; rfl
  rw [E]; clear E
  go_enter Try.func75, Try.ntmps75
  go_wp2_with (first | (go_at_call 96; (with_reducible refine (rsboth_c' _ _ _ _ _).mono ?_); rintro e w1 ⟨rfl, hb1⟩; obtain ⟨hc1, hf1, hz1⟩ := bcell hb1; (try simp only [World.size_alloc, World.size_setCell, World.size_drew] at hc1 hf1 hz1)))
  refine bodyPost_ret ?_ rfl ⟨rfl, (by repeat' (first | (with_reducible exact Below.refl _ _) | (with_reducible assumption) | (with_reducible refine Below.alloc ?_ ?_ _) | (with_reducible refine Below.setCell ?_ ?_ _) | (with_reducible refine Below.drew ?_) | (with_reducible refine below_dn ?_ _) | (with_reducible refine Below.trans ?_ (Below.mono (by assumption) ?_)) | go_size))⟩
  simp only [results, Try.results75]; simp [*, go_sem, ↓IntWalk.iteOmega]; try (first | rfl | exact ⟨rfl, rfl⟩)

set_option maxHeartbeats 1000000 in
theorem rsif_eq (a b : Sp) (ha : a.right = true) (hb : b.right = true)  (w : World) : Calls Try.prog 75 #[.int .u8 16, .agg #[.int .u64 (N a.lo), .int .u64 (N a.hi)], .agg #[.int .u64 (N b.lo), .int .u64 (N b.hi)]] w fun e w' => e = .returned (.tuple #[.agg #[.int .u64 (N ((Sp.if_ (16) a b).getD ⟨0, 0⟩).lo), .int .u64 (N ((Sp.if_ (16) a b).getD ⟨0, 0⟩).hi)], .bool (Sp.if_ (16) a b).isSome]) ∧ Below w.heap.size w w' := by
  rw [Sp.if_eq ha hb]
  rw [(Sp.meet?_get a b).1, (Sp.meet?_get a b).2]
  go_enter Try.func75, Try.ntmps75
  go_wp2_with (first | (go_at_call 96; (with_reducible refine (rsboth_c' _ _ _ _ _).mono ?_); rintro e w1 ⟨rfl, hb1⟩; obtain ⟨hc1, hf1, hz1⟩ := bcell hb1; (try simp only [World.size_alloc, World.size_setCell, World.size_drew] at hc1 hf1 hz1)) | (go_at_call 79; (with_reducible refine (rsmeet_c' _ _ _ _ _).mono ?_); rintro e w1 ⟨rfl, hb1⟩; obtain ⟨hc1, hf1, hz1⟩ := bcell hb1; (try simp only [World.size_alloc, World.size_setCell, World.size_drew] at hc1 hf1 hz1)))
  refine bodyPost_ret ?_ rfl ⟨rfl, (by repeat' (first | (with_reducible exact Below.refl _ _) | (with_reducible assumption) | (with_reducible refine Below.alloc ?_ ?_ _) | (with_reducible refine Below.setCell ?_ ?_ _) | (with_reducible refine Below.drew ?_) | (with_reducible refine below_dn ?_ _) | (with_reducible refine Below.trans ?_ (Below.mono (by assumption) ?_)) | go_size))⟩
  simp only [results, Try.results75]; simp [*, go_sem, ↓IntWalk.iteOmega]; try (first | rfl | exact ⟨rfl, rfl⟩)

set_option maxHeartbeats 1000000 in
theorem rsif_gt1 (a b : Sp) (ha : a.right = true) (hb : b.right = true) (h : (18446744073709551615#64 == b.lo) = true) (w : World) : Calls Try.prog 75 #[.int .u8 32, .agg #[.int .u64 (N a.lo), .int .u64 (N a.hi)], .agg #[.int .u64 (N b.lo), .int .u64 (N b.hi)]] w fun e w' => e = .returned (.tuple #[.agg #[.int .u64 (N ((Sp.if_ (32) a b).getD ⟨0, 0⟩).lo), .int .u64 (N ((Sp.if_ (32) a b).getD ⟨0, 0⟩).hi)], .bool (Sp.if_ (32) a b).isSome]) ∧ Below w.heap.size w w' := by
  rw [Sp.if_gt1 ha hb h]
  have hc : (b.lo == 18446744073709551615#64) = true := by rw [BEq.comm]; exact h
  go_enter Try.func75, Try.ntmps75
  go_wp2_with (first | (go_at_call 96; (with_reducible refine (rsboth_c' _ _ _ _ _).mono ?_); rintro e w1 ⟨rfl, hb1⟩; obtain ⟨hc1, hf1, hz1⟩ := bcell hb1; (try simp only [World.size_alloc, World.size_setCell, World.size_drew] at hc1 hf1 hz1)) | (go_at_call 79; (with_reducible refine (rsmeet_c' _ _ _ _ _).mono ?_); rintro e w1 ⟨rfl, hb1⟩; obtain ⟨hc1, hf1, hz1⟩ := bcell hb1; (try simp only [World.size_alloc, World.size_setCell, World.size_drew] at hc1 hf1 hz1)))
  refine bodyPost_ret ?_ rfl ⟨rfl, (by repeat' (first | (with_reducible exact Below.refl _ _) | (with_reducible assumption) | (with_reducible refine Below.alloc ?_ ?_ _) | (with_reducible refine Below.setCell ?_ ?_ _) | (with_reducible refine Below.drew ?_) | (with_reducible refine below_dn ?_ _) | (with_reducible refine Below.trans ?_ (Below.mono (by assumption) ?_)) | go_size))⟩
  simp only [results, Try.results75]; simp [*, go_sem, ↓IntWalk.iteOmega]; try (first | rfl | exact ⟨rfl, rfl⟩)

set_option maxHeartbeats 1000000 in
theorem rsif_gt2 (a b : Sp) (ha : a.right = true) (hb : b.right = true) (h : (18446744073709551615#64 == b.lo) = false) (w : World) : Calls Try.prog 75 #[.int .u8 32, .agg #[.int .u64 (N a.lo), .int .u64 (N a.hi)], .agg #[.int .u64 (N b.lo), .int .u64 (N b.hi)]] w fun e w' => e = .returned (.tuple #[.agg #[.int .u64 (N ((Sp.if_ (32) a b).getD ⟨0, 0⟩).lo), .int .u64 (N ((Sp.if_ (32) a b).getD ⟨0, 0⟩).hi)], .bool (Sp.if_ (32) a b).isSome]) ∧ Below w.heap.size w w' := by
  rw [Sp.if_gt2 ha hb h]
  rw [(Sp.meet?_get a ⟨b.lo + 1#64, 18446744073709551615#64⟩).1, (Sp.meet?_get a ⟨b.lo + 1#64, 18446744073709551615#64⟩).2]
  have hc : (b.lo == 18446744073709551615#64) = false := by rw [BEq.comm]; exact h
  go_enter Try.func75, Try.ntmps75
  go_wp2_with (first | (go_at_call 96; (with_reducible refine (rsboth_c' _ _ _ _ _).mono ?_); rintro e w1 ⟨rfl, hb1⟩; obtain ⟨hc1, hf1, hz1⟩ := bcell hb1; (try simp only [World.size_alloc, World.size_setCell, World.size_drew] at hc1 hf1 hz1)) | (go_at_call 79; (with_reducible refine (rsmeet_c' _ _ _ _ _).mono ?_); rintro e w1 ⟨rfl, hb1⟩; obtain ⟨hc1, hf1, hz1⟩ := bcell hb1; (try simp only [World.size_alloc, World.size_setCell, World.size_drew] at hc1 hf1 hz1)))
  refine wp_region_class_tail (RSIfC a b ⟨0#64, 0#64⟩ w) 10 (by kernel_rfl) (by kernel_rfl) ?_ ?_
  · refine ⟨?_, ?_, ?_, ?_, ?_, ?_, ?_, (by repeat' (first | (with_reducible exact Below.refl _ _) | (with_reducible assumption) | (with_reducible refine Below.alloc ?_ ?_ _) | (with_reducible refine Below.setCell ?_ ?_ _) | (with_reducible refine Below.drew ?_) | (with_reducible refine below_dn ?_ _) | (with_reducible refine Below.trans ?_ (Below.mono (by assumption) ?_)) | go_size))⟩
    all_goals first | (intro i; simp [*, go_sem, ↓IntWalk.iteOmega]; done) | (simp [*, go_sem, ↓IntWalk.iteOmega]; done)
  intro hN
  (try simp only [List.append])
  simp only [List.take_succ_cons, List.take_zero, List.drop_succ_cons, List.drop_zero]
  repeat (first
    | go_big_quiet_skip
    | (go_big_quiet_want
       first
         | (refine quiet_load_Sp rfl rfl (fun w' hC => by obtain ⟨k0, k1, k2, k3, k4, k5, k6, k7⟩ := hC; first | exact ⟨k0, k1⟩ | exact ⟨k1, k2⟩ | exact ⟨k2, k3⟩ | exact ⟨k3, k4⟩ | exact ⟨k4, k5⟩) ?_
            simp only [Act.put, List.setIfInBounds_toArray, List.set_cons_succ, List.set_cons_zero]
            go_big_quiet_on)
         | (refine quiet_load_W rfl rfl (fun w' hC => by obtain ⟨k0, k1, k2, k3, k4, k5, k6, k7⟩ := hC; first | exact k0 | exact k1 | exact k2 | exact k3 | exact k4 | exact k5) ?_
            simp only [Act.put, List.setIfInBounds_toArray, List.set_cons_succ, List.set_cons_zero]
            go_big_quiet_on)
         | (go_big_quiet_op
            first
              | go_big_quiet_on
              | (apply Exists.intro
                 refine ⟨fun w' hC => ?_, ?_⟩
                 · (first | (go_at_call 55; (with_reducible refine (rsall_c _).mono ?_); rintro e w1 ⟨rfl, hb1⟩) | (go_at_call 79; (with_reducible refine (rsmeet_c' _ _ _ _ _).mono ?_); rintro e w1 ⟨rfl, hb1⟩))
                   (try simp only [Sp.eta])
                   exact ⟨rfl, by first | exact hC | exact RSIfC_keep _ _ hC hb1⟩
                 go_big_quiet_on))))
  refine wpQuiet_nil ?_
  intro w9 hC
  obtain ⟨k0, k1, k2, k3, k4, k5, k6, k7⟩ := hC
  have z0 := cell_lt k0
  have z2 := cell_lt k2
  have z4 := cell_lt k4
  go_wp2
  refine bodyPost_ret ?_ rfl ⟨rfl, (by repeat' (first | (with_reducible exact Below.refl _ _) | (with_reducible assumption) | (with_reducible refine Below.alloc ?_ ?_ _) | (with_reducible refine Below.setCell ?_ ?_ _) | (with_reducible refine Below.drew ?_) | (with_reducible refine below_dn ?_ _) | (with_reducible refine Below.trans ?_ (Below.mono (by assumption) ?_)) | go_size))⟩
  simp only [results, Try.results75]; simp [*, go_sem, ↓IntWalk.iteOmega]; try (first | rfl | exact ⟨rfl, rfl⟩)

set_option maxHeartbeats 1000000 in
theorem rsif_ge (a b : Sp) (ha : a.right = true) (hb : b.right = true)  (w : World) : Calls Try.prog 75 #[.int .u8 48, .agg #[.int .u64 (N a.lo), .int .u64 (N a.hi)], .agg #[.int .u64 (N b.lo), .int .u64 (N b.hi)]] w fun e w' => e = .returned (.tuple #[.agg #[.int .u64 (N ((Sp.if_ (48) a b).getD ⟨0, 0⟩).lo), .int .u64 (N ((Sp.if_ (48) a b).getD ⟨0, 0⟩).hi)], .bool (Sp.if_ (48) a b).isSome]) ∧ Below w.heap.size w w' := by
  rw [Sp.if_ge ha hb]
  rw [(Sp.meet?_get a ⟨b.lo, 18446744073709551615#64⟩).1, (Sp.meet?_get a ⟨b.lo, 18446744073709551615#64⟩).2]
  go_enter Try.func75, Try.ntmps75
  go_wp2_with (first | (go_at_call 96; (with_reducible refine (rsboth_c' _ _ _ _ _).mono ?_); rintro e w1 ⟨rfl, hb1⟩; obtain ⟨hc1, hf1, hz1⟩ := bcell hb1; (try simp only [World.size_alloc, World.size_setCell, World.size_drew] at hc1 hf1 hz1)) | (go_at_call 79; (with_reducible refine (rsmeet_c' _ _ _ _ _).mono ?_); rintro e w1 ⟨rfl, hb1⟩; obtain ⟨hc1, hf1, hz1⟩ := bcell hb1; (try simp only [World.size_alloc, World.size_setCell, World.size_drew] at hc1 hf1 hz1)))
  refine wp_region_class_tail (RSIfC a b ⟨0#64, 0#64⟩ w) 9 (by kernel_rfl) (by kernel_rfl) ?_ ?_
  · refine ⟨?_, ?_, ?_, ?_, ?_, ?_, ?_, (by repeat' (first | (with_reducible exact Below.refl _ _) | (with_reducible assumption) | (with_reducible refine Below.alloc ?_ ?_ _) | (with_reducible refine Below.setCell ?_ ?_ _) | (with_reducible refine Below.drew ?_) | (with_reducible refine below_dn ?_ _) | (with_reducible refine Below.trans ?_ (Below.mono (by assumption) ?_)) | go_size))⟩
    all_goals first | (intro i; simp [*, go_sem, ↓IntWalk.iteOmega]; done) | (simp [*, go_sem, ↓IntWalk.iteOmega]; done)
  intro hN
  (try simp only [List.append])
  simp only [List.take_succ_cons, List.take_zero, List.drop_succ_cons, List.drop_zero]
  repeat (first
    | go_big_quiet_skip
    | (go_big_quiet_want
       first
         | (refine quiet_load_Sp rfl rfl (fun w' hC => by obtain ⟨k0, k1, k2, k3, k4, k5, k6, k7⟩ := hC; first | exact ⟨k0, k1⟩ | exact ⟨k1, k2⟩ | exact ⟨k2, k3⟩ | exact ⟨k3, k4⟩ | exact ⟨k4, k5⟩) ?_
            simp only [Act.put, List.setIfInBounds_toArray, List.set_cons_succ, List.set_cons_zero]
            go_big_quiet_on)
         | (refine quiet_load_W rfl rfl (fun w' hC => by obtain ⟨k0, k1, k2, k3, k4, k5, k6, k7⟩ := hC; first | exact k0 | exact k1 | exact k2 | exact k3 | exact k4 | exact k5) ?_
            simp only [Act.put, List.setIfInBounds_toArray, List.set_cons_succ, List.set_cons_zero]
            go_big_quiet_on)
         | (go_big_quiet_op
            first
              | go_big_quiet_on
              | (apply Exists.intro
                 refine ⟨fun w' hC => ?_, ?_⟩
                 · (first | (go_at_call 55; (with_reducible refine (rsall_c _).mono ?_); rintro e w1 ⟨rfl, hb1⟩) | (go_at_call 79; (with_reducible refine (rsmeet_c' _ _ _ _ _).mono ?_); rintro e w1 ⟨rfl, hb1⟩))
                   (try simp only [Sp.eta])
                   exact ⟨rfl, by first | exact hC | exact RSIfC_keep _ _ hC hb1⟩
                 go_big_quiet_on))))
  refine wpQuiet_nil ?_
  intro w9 hC
  obtain ⟨k0, k1, k2, k3, k4, k5, k6, k7⟩ := hC
  have z0 := cell_lt k0
  have z2 := cell_lt k2
  have z4 := cell_lt k4
  go_wp2
  refine bodyPost_ret ?_ rfl ⟨rfl, (by repeat' (first | (with_reducible exact Below.refl _ _) | (with_reducible assumption) | (with_reducible refine Below.alloc ?_ ?_ _) | (with_reducible refine Below.setCell ?_ ?_ _) | (with_reducible refine Below.drew ?_) | (with_reducible refine below_dn ?_ _) | (with_reducible refine Below.trans ?_ (Below.mono (by assumption) ?_)) | go_size))⟩
  simp only [results, Try.results75]; simp [*, go_sem, ↓IntWalk.iteOmega]; try (first | rfl | exact ⟨rfl, rfl⟩)

set_option maxHeartbeats 1000000 in
theorem rsif_lt1 (a b : Sp) (ha : a.right = true) (hb : b.right = true) (h : (0#64 == b.hi) = true) (w : World) : Calls Try.prog 75 #[.int .u8 160, .agg #[.int .u64 (N a.lo), .int .u64 (N a.hi)], .agg #[.int .u64 (N b.lo), .int .u64 (N b.hi)]] w fun e w' => e = .returned (.tuple #[.agg #[.int .u64 (N ((Sp.if_ (160) a b).getD ⟨0, 0⟩).lo), .int .u64 (N ((Sp.if_ (160) a b).getD ⟨0, 0⟩).hi)], .bool (Sp.if_ (160) a b).isSome]) ∧ Below w.heap.size w w' := by
  rw [Sp.if_lt1 ha hb h]
  have hc : (b.hi == 0#64) = true := by rw [BEq.comm]; exact h
  go_enter Try.func75, Try.ntmps75
  go_wp2_with (first | (go_at_call 96; (with_reducible refine (rsboth_c' _ _ _ _ _).mono ?_); rintro e w1 ⟨rfl, hb1⟩; obtain ⟨hc1, hf1, hz1⟩ := bcell hb1; (try simp only [World.size_alloc, World.size_setCell, World.size_drew] at hc1 hf1 hz1)) | (go_at_call 79; (with_reducible refine (rsmeet_c' _ _ _ _ _).mono ?_); rintro e w1 ⟨rfl, hb1⟩; obtain ⟨hc1, hf1, hz1⟩ := bcell hb1; (try simp only [World.size_alloc, World.size_setCell, World.size_drew] at hc1 hf1 hz1)))
  refine bodyPost_ret ?_ rfl ⟨rfl, (by repeat' (first | (with_reducible exact Below.refl _ _) | (with_reducible assumption) | (with_reducible refine Below.alloc ?_ ?_ _) | (with_reducible refine Below.setCell ?_ ?_ _) | (with_reducible refine Below.drew ?_) | (with_reducible refine below_dn ?_ _) | (with_reducible refine Below.trans ?_ (Below.mono (by assumption) ?_)) | go_size))⟩
  simp only [results, Try.results75]; simp [*, go_sem, ↓IntWalk.iteOmega]; try (first | rfl | exact ⟨rfl, rfl⟩)

set_option maxHeartbeats 1000000 in
theorem rsif_lt2 (a b : Sp) (ha : a.right = true) (hb : b.right = true) (h : (0#64 == b.hi) = false) (w : World) : Calls Try.prog 75 #[.int .u8 160, .agg #[.int .u64 (N a.lo), .int .u64 (N a.hi)], .agg #[.int .u64 (N b.lo), .int .u64 (N b.hi)]] w fun e w' => e = .returned (.tuple #[.agg #[.int .u64 (N ((Sp.if_ (160) a b).getD ⟨0, 0⟩).lo), .int .u64 (N ((Sp.if_ (160) a b).getD ⟨0, 0⟩).hi)], .bool (Sp.if_ (160) a b).isSome]) ∧ Below w.heap.size w w' := by
  rw [Sp.if_lt2 ha hb h]
  rw [(Sp.meet?_get a ⟨0, b.hi - 1#64⟩).1, (Sp.meet?_get a ⟨0, b.hi - 1#64⟩).2]
  have hc : (b.hi == 0#64) = false := by rw [BEq.comm]; exact h
  go_enter Try.func75, Try.ntmps75
  go_wp2_with (first | (go_at_call 96; (with_reducible refine (rsboth_c' _ _ _ _ _).mono ?_); rintro e w1 ⟨rfl, hb1⟩; obtain ⟨hc1, hf1, hz1⟩ := bcell hb1; (try simp only [World.size_alloc, World.size_setCell, World.size_drew] at hc1 hf1 hz1)) | (go_at_call 79; (with_reducible refine (rsmeet_c' _ _ _ _ _).mono ?_); rintro e w1 ⟨rfl, hb1⟩; obtain ⟨hc1, hf1, hz1⟩ := bcell hb1; (try simp only [World.size_alloc, World.size_setCell, World.size_drew] at hc1 hf1 hz1)))
  refine bodyPost_ret ?_ rfl ⟨rfl, (by repeat' (first | (with_reducible exact Below.refl _ _) | (with_reducible assumption) | (with_reducible refine Below.alloc ?_ ?_ _) | (with_reducible refine Below.setCell ?_ ?_ _) | (with_reducible refine Below.drew ?_) | (with_reducible refine below_dn ?_ _) | (with_reducible refine Below.trans ?_ (Below.mono (by assumption) ?_)) | go_size))⟩
  simp only [results, Try.results75]; simp [*, go_sem, ↓IntWalk.iteOmega]; try (first | rfl | exact ⟨rfl, rfl⟩)

set_option maxHeartbeats 1000000 in
theorem rsif_le (a b : Sp) (ha : a.right = true) (hb : b.right = true)  (w : World) : Calls Try.prog 75 #[.int .u8 176, .agg #[.int .u64 (N a.lo), .int .u64 (N a.hi)], .agg #[.int .u64 (N b.lo), .int .u64 (N b.hi)]] w fun e w' => e = .returned (.tuple #[.agg #[.int .u64 (N ((Sp.if_ (176) a b).getD ⟨0, 0⟩).lo), .int .u64 (N ((Sp.if_ (176) a b).getD ⟨0, 0⟩).hi)], .bool (Sp.if_ (176) a b).isSome]) ∧ Below w.heap.size w w' := by
  rw [Sp.if_le ha hb]
  rw [(Sp.meet?_get a ⟨0, b.hi⟩).1, (Sp.meet?_get a ⟨0, b.hi⟩).2]
  go_enter Try.func75, Try.ntmps75
  go_wp2_with (first | (go_at_call 96; (with_reducible refine (rsboth_c' _ _ _ _ _).mono ?_); rintro e w1 ⟨rfl, hb1⟩; obtain ⟨hc1, hf1, hz1⟩ := bcell hb1; (try simp only [World.size_alloc, World.size_setCell, World.size_drew] at hc1 hf1 hz1)) | (go_at_call 79; (with_reducible refine (rsmeet_c' _ _ _ _ _).mono ?_); rintro e w1 ⟨rfl, hb1⟩; obtain ⟨hc1, hf1, hz1⟩ := bcell hb1; (try simp only [World.size_alloc, World.size_setCell, World.size_drew] at hc1 hf1 hz1)))
  refine bodyPost_ret ?_ rfl ⟨rfl, (by repeat' (first | (with_reducible exact Below.refl _ _) | (with_reducible assumption) | (with_reducible refine Below.alloc ?_ ?_ _) | (with_reducible refine Below.setCell ?_ ?_ _) | (with_reducible refine Below.drew ?_) | (with_reducible refine below_dn ?_ _) | (with_reducible refine Below.trans ?_ (Below.mono (by assumption) ?_)) | go_size))⟩
  simp only [results, Try.results75]; simp [*, go_sem, ↓IntWalk.iteOmega]; try (first | rfl | exact ⟨rfl, rfl⟩)

set_option maxHeartbeats 1000000 in
theorem rsif_ne0 (a b : Sp) (ha : a.right = true) (hb : b.right = true) (e : (b.lo == b.hi) = false) (w : World) : Calls Try.prog 75 #[.int .u8 80, .agg #[.int .u64 (N a.lo), .int .u64 (N a.hi)], .agg #[.int .u64 (N b.lo), .int .u64 (N b.hi)]] w fun e w' => e = .returned (.tuple #[.agg #[.int .u64 (N ((Sp.if_ (80) a b).getD ⟨0, 0⟩).lo), .int .u64 (N ((Sp.if_ (80) a b).getD ⟨0, 0⟩).hi)], .bool (Sp.if_ (80) a b).isSome]) ∧ Below w.heap.size w w' := by
  rw [Sp.if_ne2 ha hb e]
  go_enter Try.func75, Try.ntmps75
  go_wp2_with (first | (go_at_call 96; (with_reducible refine (rsboth_c' _ _ _ _ _).mono ?_); rintro e w1 ⟨rfl, hb1⟩; obtain ⟨hc1, hf1, hz1⟩ := bcell hb1; (try simp only [World.size_alloc, World.size_setCell, World.size_drew] at hc1 hf1 hz1)) | (go_at_call 79; (with_reducible refine (rsmeet_c' _ _ _ _ _).mono ?_); rintro e w1 ⟨rfl, hb1⟩; obtain ⟨hc1, hf1, hz1⟩ := bcell hb1; (try simp only [World.size_alloc, World.size_setCell, World.size_drew] at hc1 hf1 hz1)))
  refine bodyPost_ret ?_ rfl ⟨rfl, (by repeat' (first | (with_reducible exact Below.refl _ _) | (with_reducible assumption) | (with_reducible refine Below.alloc ?_ ?_ _) | (with_reducible refine Below.setCell ?_ ?_ _) | (with_reducible refine Below.drew ?_) | (with_reducible refine below_dn ?_ _) | (with_reducible refine Below.trans ?_ (Below.mono (by assumption) ?_)) | go_size))⟩
  simp only [results, Try.results75]; simp [*, go_sem, ↓IntWalk.iteOmega]; try (first | rfl | exact ⟨rfl, rfl⟩)

set_option maxHeartbeats 1000000 in
theorem rsif_ne1 (a b : Sp) (ha : a.right = true) (hb : b.right = true) (e : (b.lo == b.hi) = true) (h1 : (a.lo == b.lo) = true) (h2 : (a.hi == b.lo) = true) (w : World) : Calls Try.prog 75 #[.int .u8 80, .agg #[.int .u64 (N a.lo), .int .u64 (N a.hi)], .agg #[.int .u64 (N b.lo), .int .u64 (N b.hi)]] w fun e w' => e = .returned (.tuple #[.agg #[.int .u64 (N ((Sp.if_ (80) a b).getD ⟨0, 0⟩).lo), .int .u64 (N ((Sp.if_ (80) a b).getD ⟨0, 0⟩).hi)], .bool (Sp.if_ (80) a b).isSome]) ∧ Below w.heap.size w w' := by
  rw [Sp.if_ne1 ha hb e, Sp.wo_none h1 h2]
  have h3 : (a.lo == a.hi) = true := by rw [beq_iff_eq] at h1 h2 ⊢; rw [h1, h2]
  go_enter Try.func75, Try.ntmps75
  go_wp2_with (first | (go_at_call 96; (with_reducible refine (rsboth_c' _ _ _ _ _).mono ?_); rintro e w1 ⟨rfl, hb1⟩; obtain ⟨hc1, hf1, hz1⟩ := bcell hb1; (try simp only [World.size_alloc, World.size_setCell, World.size_drew] at hc1 hf1 hz1)) | (go_at_call 79; (with_reducible refine (rsmeet_c' _ _ _ _ _).mono ?_); rintro e w1 ⟨rfl, hb1⟩; obtain ⟨hc1, hf1, hz1⟩ := bcell hb1; (try simp only [World.size_alloc, World.size_setCell, World.size_drew] at hc1 hf1 hz1)))
  refine bodyPost_ret ?_ rfl ⟨rfl, (by repeat' (first | (with_reducible exact Below.refl _ _) | (with_reducible assumption) | (with_reducible refine Below.alloc ?_ ?_ _) | (with_reducible refine Below.setCell ?_ ?_ _) | (with_reducible refine Below.drew ?_) | (with_reducible refine below_dn ?_ _) | (with_reducible refine Below.trans ?_ (Below.mono (by assumption) ?_)) | go_size))⟩
  simp only [results, Try.results75]; simp [*, go_sem, ↓IntWalk.iteOmega]; try (first | rfl | exact ⟨rfl, rfl⟩)

set_option maxHeartbeats 1000000 in
theorem rsif_ne2 (a b : Sp) (ha : a.right = true) (hb : b.right = true) (e : (b.lo == b.hi) = true) (h1 : (a.lo == b.lo) = true) (h2 : (a.hi == b.lo) = false) (w : World) : Calls Try.prog 75 #[.int .u8 80, .agg #[.int .u64 (N a.lo), .int .u64 (N a.hi)], .agg #[.int .u64 (N b.lo), .int .u64 (N b.hi)]] w fun e w' => e = .returned (.tuple #[.agg #[.int .u64 (N ((Sp.if_ (80) a b).getD ⟨0, 0⟩).lo), .int .u64 (N ((Sp.if_ (80) a b).getD ⟨0, 0⟩).hi)], .bool (Sp.if_ (80) a b).isSome]) ∧ Below w.heap.size w w' := by
  rw [Sp.if_ne1 ha hb e, Sp.wo_lo h1 h2]
  have h3 : (a.lo == a.hi) = false := by rw [beq_iff_eq] at h1; rw [h1, BEq.comm]; exact h2
  go_enter Try.func75, Try.ntmps75
  go_wp2_with (first | (go_at_call 96; (with_reducible refine (rsboth_c' _ _ _ _ _).mono ?_); rintro e w1 ⟨rfl, hb1⟩; obtain ⟨hc1, hf1, hz1⟩ := bcell hb1; (try simp only [World.size_alloc, World.size_setCell, World.size_drew] at hc1 hf1 hz1)) | (go_at_call 79; (with_reducible refine (rsmeet_c' _ _ _ _ _).mono ?_); rintro e w1 ⟨rfl, hb1⟩; obtain ⟨hc1, hf1, hz1⟩ := bcell hb1; (try simp only [World.size_alloc, World.size_setCell, World.size_drew] at hc1 hf1 hz1)))
  refine bodyPost_ret ?_ rfl ⟨rfl, (by repeat' (first | (with_reducible exact Below.refl _ _) | (with_reducible assumption) | (with_reducible refine Below.alloc ?_ ?_ _) | (with_reducible refine Below.setCell ?_ ?_ _) | (with_reducible refine Below.drew ?_) | (with_reducible refine below_dn ?_ _) | (with_reducible refine Below.trans ?_ (Below.mono (by assumption) ?_)) | go_size))⟩
  simp only [results, Try.results75]; simp [*, go_sem, ↓IntWalk.iteOmega]; try (first | rfl | exact ⟨rfl, rfl⟩)

set_option maxHeartbeats 1000000 in
theorem rsif_ne3 (a b : Sp) (ha : a.right = true) (hb : b.right = true) (e : (b.lo == b.hi) = true) (h1 : (a.lo == b.lo) = false) (h2 : (a.hi == b.lo) = true) (w : World) : Calls Try.prog 75 #[.int .u8 80, .agg #[.int .u64 (N a.lo), .int .u64 (N a.hi)], .agg #[.int .u64 (N b.lo), .int .u64 (N b.hi)]] w fun e w' => e = .returned (.tuple #[.agg #[.int .u64 (N ((Sp.if_ (80) a b).getD ⟨0, 0⟩).lo), .int .u64 (N ((Sp.if_ (80) a b).getD ⟨0, 0⟩).hi)], .bool (Sp.if_ (80) a b).isSome]) ∧ Below w.heap.size w w' := by
  rw [Sp.if_ne1 ha hb e, Sp.wo_hi h1 h2]
  have h3 : (a.lo == a.hi) = false := by rw [beq_iff_eq] at h2; rw [h2]; exact h1
  go_enter Try.func75, Try.ntmps75
  go_wp2_with (first | (go_at_call 96; (with_reducible refine (rsboth_c' _ _ _ _ _).mono ?_); rintro e w1 ⟨rfl, hb1⟩; obtain ⟨hc1, hf1, hz1⟩ := bcell hb1; (try simp only [World.size_alloc, World.size_setCell, World.size_drew] at hc1 hf1 hz1)) | (go_at_call 79; (with_reducible refine (rsmeet_c' _ _ _ _ _).mono ?_); rintro e w1 ⟨rfl, hb1⟩; obtain ⟨hc1, hf1, hz1⟩ := bcell hb1; (try simp only [World.size_alloc, World.size_setCell, World.size_drew] at hc1 hf1 hz1)))
  refine bodyPost_ret ?_ rfl ⟨rfl, (by repeat' (first | (with_reducible exact Below.refl _ _) | (with_reducible assumption) | (with_reducible refine Below.alloc ?_ ?_ _) | (with_reducible refine Below.setCell ?_ ?_ _) | (with_reducible refine Below.drew ?_) | (with_reducible refine below_dn ?_ _) | (with_reducible refine Below.trans ?_ (Below.mono (by assumption) ?_)) | go_size))⟩
  simp only [results, Try.results75]; simp [*, go_sem, ↓IntWalk.iteOmega]; try (first | rfl | exact ⟨rfl, rfl⟩)

set_option maxHeartbeats 1000000 in
theorem rsif_ne4t (a b : Sp) (ha : a.right = true) (hb : b.right = true) (e : (b.lo == b.hi) = true) (h1 : (a.lo == b.lo) = false) (h2 : (a.hi == b.lo) = false) (h3 : (a.lo == a.hi) = true) (w : World) : Calls Try.prog 75 #[.int .u8 80, .agg #[.int .u64 (N a.lo), .int .u64 (N a.hi)], .agg #[.int .u64 (N b.lo), .int .u64 (N b.hi)]] w fun e w' => e = .returned (.tuple #[.agg #[.int .u64 (N ((Sp.if_ (80) a b).getD ⟨0, 0⟩).lo), .int .u64 (N ((Sp.if_ (80) a b).getD ⟨0, 0⟩).hi)], .bool (Sp.if_ (80) a b).isSome]) ∧ Below w.heap.size w w' := by
  rw [Sp.if_ne1 ha hb e, Sp.wo_same h1 h2]
  go_enter Try.func75, Try.ntmps75
  go_wp2_with (first | (go_at_call 96; (with_reducible refine (rsboth_c' _ _ _ _ _).mono ?_); rintro e w1 ⟨rfl, hb1⟩; obtain ⟨hc1, hf1, hz1⟩ := bcell hb1; (try simp only [World.size_alloc, World.size_setCell, World.size_drew] at hc1 hf1 hz1)) | (go_at_call 79; (with_reducible refine (rsmeet_c' _ _ _ _ _).mono ?_); rintro e w1 ⟨rfl, hb1⟩; obtain ⟨hc1, hf1, hz1⟩ := bcell hb1; (try simp only [World.size_alloc, World.size_setCell, World.size_drew] at hc1 hf1 hz1)))
  refine bodyPost_ret ?_ rfl ⟨rfl, (by repeat' (first | (with_reducible exact Below.refl _ _) | (with_reducible assumption) | (with_reducible refine Below.alloc ?_ ?_ _) | (with_reducible refine Below.setCell ?_ ?_ _) | (with_reducible refine Below.drew ?_) | (with_reducible refine below_dn ?_ _) | (with_reducible refine Below.trans ?_ (Below.mono (by assumption) ?_)) | go_size))⟩
  simp only [results, Try.results75]; simp [*, go_sem, ↓IntWalk.iteOmega]; try (first | rfl | exact ⟨rfl, rfl⟩)

set_option maxHeartbeats 1000000 in
theorem rsif_ne4f (a b : Sp) (ha : a.right = true) (hb : b.right = true) (e : (b.lo == b.hi) = true) (h1 : (a.lo == b.lo) = false) (h2 : (a.hi == b.lo) = false) (h3 : (a.lo == a.hi) = false) (w : World) : Calls Try.prog 75 #[.int .u8 80, .agg #[.int .u64 (N a.lo), .int .u64 (N a.hi)], .agg #[.int .u64 (N b.lo), .int .u64 (N b.hi)]] w fun e w' => e = .returned (.tuple #[.agg #[.int .u64 (N ((Sp.if_ (80) a b).getD ⟨0, 0⟩).lo), .int .u64 (N ((Sp.if_ (80) a b).getD ⟨0, 0⟩).hi)], .bool (Sp.if_ (80) a b).isSome]) ∧ Below w.heap.size w w' := by
  rw [Sp.if_ne1 ha hb e, Sp.wo_same h1 h2]
  go_enter Try.func75, Try.ntmps75
  go_wp2_with (first | (go_at_call 96; (with_reducible refine (rsboth_c' _ _ _ _ _).mono ?_); rintro e w1 ⟨rfl, hb1⟩; obtain ⟨hc1, hf1, hz1⟩ := bcell hb1; (try simp only [World.size_alloc, World.size_setCell, World.size_drew] at hc1 hf1 hz1)) | (go_at_call 79; (with_reducible refine (rsmeet_c' _ _ _ _ _).mono ?_); rintro e w1 ⟨rfl, hb1⟩; obtain ⟨hc1, hf1, hz1⟩ := bcell hb1; (try simp only [World.size_alloc, World.size_setCell, World.size_drew] at hc1 hf1 hz1)))
  refine bodyPost_ret ?_ rfl ⟨rfl, (by repeat' (first | (with_reducible exact Below.refl _ _) | (with_reducible assumption) | (with_reducible refine Below.alloc ?_ ?_ _) | (with_reducible refine Below.setCell ?_ ?_ _) | (with_reducible refine Below.drew ?_) | (with_reducible refine below_dn ?_ _) | (with_reducible refine Below.trans ?_ (Below.mono (by assumption) ?_)) | go_size))⟩
  simp only [results, Try.results75]; simp [*, go_sem, ↓IntWalk.iteOmega]; try (first | rfl | exact ⟨rfl, rfl⟩)

set_option maxHeartbeats 1000000 in
theorem rsif_set1a (a b : Sp) (ha : a.right = true) (hb : b.right = true) (h : (a.hi == 0#64) = true) (w : World) : Calls Try.prog 75 #[.int .u8 64, .agg #[.int .u64 (N a.lo), .int .u64 (N a.hi)], .agg #[.int .u64 (N b.lo), .int .u64 (N b.hi)]] w fun e w' => e = .returned (.tuple #[.agg #[.int .u64 (N ((Sp.if_ (64) a b).getD ⟨0, 0⟩).lo), .int .u64 (N ((Sp.if_ (64) a b).getD ⟨0, 0⟩).hi)], .bool (Sp.if_ (64) a b).isSome]) ∧ Below w.heap.size w w' := by
  rw [Sp.if_set1 ha hb (by rw [h]; rfl)]
  go_enter Try.func75, Try.ntmps75
  go_wp2_with (first | (go_at_call 96; (with_reducible refine (rsboth_c' _ _ _ _ _).mono ?_); rintro e w1 ⟨rfl, hb1⟩; obtain ⟨hc1, hf1, hz1⟩ := bcell hb1; (try simp only [World.size_alloc, World.size_setCell, World.size_drew] at hc1 hf1 hz1)) | (go_at_call 79; (with_reducible refine (rsmeet_c' _ _ _ _ _).mono ?_); rintro e w1 ⟨rfl, hb1⟩; obtain ⟨hc1, hf1, hz1⟩ := bcell hb1; (try simp only [World.size_alloc, World.size_setCell, World.size_drew] at hc1 hf1 hz1)))
  refine bodyPost_ret ?_ rfl ⟨rfl, (by repeat' (first | (with_reducible exact Below.refl _ _) | (with_reducible assumption) | (with_reducible refine Below.alloc ?_ ?_ _) | (with_reducible refine Below.setCell ?_ ?_ _) | (with_reducible refine Below.drew ?_) | (with_reducible refine below_dn ?_ _) | (with_reducible refine Below.trans ?_ (Below.mono (by assumption) ?_)) | go_size))⟩
  simp only [results, Try.results75]; simp [*, go_sem, ↓IntWalk.iteOmega]; try (first | rfl | exact ⟨rfl, rfl⟩)

set_option maxHeartbeats 1000000 in
theorem rsif_set1b (a b : Sp) (ha : a.right = true) (hb : b.right = true) (h : (a.hi == 0#64) = false) (h' : (b.hi == 0#64) = true) (w : World) : Calls Try.prog 75 #[.int .u8 64, .agg #[.int .u64 (N a.lo), .int .u64 (N a.hi)], .agg #[.int .u64 (N b.lo), .int .u64 (N b.hi)]] w fun e w' => e = .returned (.tuple #[.agg #[.int .u64 (N ((Sp.if_ (64) a b).getD ⟨0, 0⟩).lo), .int .u64 (N ((Sp.if_ (64) a b).getD ⟨0, 0⟩).hi)], .bool (Sp.if_ (64) a b).isSome]) ∧ Below w.heap.size w w' := by
  rw [Sp.if_set1 ha hb (by rw [h, h']; rfl)]
  go_enter Try.func75, Try.ntmps75
  go_wp2_with (first | (go_at_call 96; (with_reducible refine (rsboth_c' _ _ _ _ _).mono ?_); rintro e w1 ⟨rfl, hb1⟩; obtain ⟨hc1, hf1, hz1⟩ := bcell hb1; (try simp only [World.size_alloc, World.size_setCell, World.size_drew] at hc1 hf1 hz1)) | (go_at_call 79; (with_reducible refine (rsmeet_c' _ _ _ _ _).mono ?_); rintro e w1 ⟨rfl, hb1⟩; obtain ⟨hc1, hf1, hz1⟩ := bcell hb1; (try simp only [World.size_alloc, World.size_setCell, World.size_drew] at hc1 hf1 hz1)))
  refine bodyPost_ret ?_ rfl ⟨rfl, (by repeat' (first | (with_reducible exact Below.refl _ _) | (with_reducible assumption) | (with_reducible refine Below.alloc ?_ ?_ _) | (with_reducible refine Below.setCell ?_ ?_ _) | (with_reducible refine Below.drew ?_) | (with_reducible refine below_dn ?_ _) | (with_reducible refine Below.trans ?_ (Below.mono (by assumption) ?_)) | go_size))⟩
  simp only [results, Try.results75]; simp [*, go_sem, ↓IntWalk.iteOmega]; try (first | rfl | exact ⟨rfl, rfl⟩)

set_option maxHeartbeats 1000000 in
theorem rsif_set2 (a b : Sp) (ha : a.right = true) (hb : b.right = true) (h : (a.hi == 0#64) = false) (h' : (b.hi == 0#64) = false) (w : World) : Calls Try.prog 75 #[.int .u8 64, .agg #[.int .u64 (N a.lo), .int .u64 (N a.hi)], .agg #[.int .u64 (N b.lo), .int .u64 (N b.hi)]] w fun e w' => e = .returned (.tuple #[.agg #[.int .u64 (N ((Sp.if_ (64) a b).getD ⟨0, 0⟩).lo), .int .u64 (N ((Sp.if_ (64) a b).getD ⟨0, 0⟩).hi)], .bool (Sp.if_ (64) a b).isSome]) ∧ Below w.heap.size w w' := by
  rw [Sp.if_set2 ha hb (by rw [h, h']; rfl)]
  go_enter Try.func75, Try.ntmps75
  go_wp2_with (first | (go_at_call 96; (with_reducible refine (rsboth_c' _ _ _ _ _).mono ?_); rintro e w1 ⟨rfl, hb1⟩; obtain ⟨hc1, hf1, hz1⟩ := bcell hb1; (try simp only [World.size_alloc, World.size_setCell, World.size_drew] at hc1 hf1 hz1)) | (go_at_call 79; (with_reducible refine (rsmeet_c' _ _ _ _ _).mono ?_); rintro e w1 ⟨rfl, hb1⟩; obtain ⟨hc1, hf1, hz1⟩ := bcell hb1; (try simp only [World.size_alloc, World.size_setCell, World.size_drew] at hc1 hf1 hz1)))
  refine bodyPost_ret ?_ rfl ⟨rfl, (by repeat' (first | (with_reducible exact Below.refl _ _) | (with_reducible assumption) | (with_reducible refine Below.alloc ?_ ?_ _) | (with_reducible refine Below.setCell ?_ ?_ _) | (with_reducible refine Below.drew ?_) | (with_reducible refine below_dn ?_ _) | (with_reducible refine Below.trans ?_ (Below.mono (by assumption) ?_)) | go_size))⟩
  simp only [results, Try.results75]; simp [*, go_sem, ↓IntWalk.iteOmega]; try (first | rfl | exact ⟨rfl, rfl⟩)

set_option maxHeartbeats 1000000 in
theorem rsif_else (op : Int) (a b : Sp) (ha : a.right = true) (hb : b.right = true) (n16 : ¬ op = 16) (n32 : ¬ op = 32) (n48 : ¬ op = 48) (n160 : ¬ op = 160) (n176 : ¬ op = 176) (n80 : ¬ op = 80) (n64 : ¬ op = 64) (w : World) : Calls Try.prog 75 #[.int .u8 op, .agg #[.int .u64 (N a.lo), .int .u64 (N a.hi)], .agg #[.int .u64 (N b.lo), .int .u64 (N b.hi)]] w fun e w' => e = .returned (.tuple #[.agg #[.int .u64 (N ((Sp.if_ (op) a b).getD ⟨0, 0⟩).lo), .int .u64 (N ((Sp.if_ (op) a b).getD ⟨0, 0⟩).hi)], .bool (Sp.if_ (op) a b).isSome]) ∧ Below w.heap.size w w' := by
  rw [Sp.if_else ha hb op n16 n32 n48 n160 n176 n80 n64]
  go_enter Try.func75, Try.ntmps75
  go_wp2_with (first | (go_at_call 96; (with_reducible refine (rsboth_c' _ _ _ _ _).mono ?_); rintro e w1 ⟨rfl, hb1⟩; obtain ⟨hc1, hf1, hz1⟩ := bcell hb1; (try simp only [World.size_alloc, World.size_setCell, World.size_drew] at hc1 hf1 hz1)) | (go_at_call 79; (with_reducible refine (rsmeet_c' _ _ _ _ _).mono ?_); rintro e w1 ⟨rfl, hb1⟩; obtain ⟨hc1, hf1, hz1⟩ := bcell hb1; (try simp only [World.size_alloc, World.size_setCell, World.size_drew] at hc1 hf1 hz1)))
  refine bodyPost_ret ?_ rfl ⟨rfl, (by repeat' (first | (with_reducible exact Below.refl _ _) | (with_reducible assumption) | (with_reducible refine Below.alloc ?_ ?_ _) | (with_reducible refine Below.setCell ?_ ?_ _) | (with_reducible refine Below.drew ?_) | (with_reducible refine below_dn ?_ _) | (with_reducible refine Below.trans ?_ (Below.mono (by assumption) ?_)) | go_size))⟩
  simp only [results, Try.results75]; simp [*, go_sem, ↓IntWalk.iteOmega]; try (first | rfl | exact ⟨rfl, rfl⟩)

theorem rsif_c (op : Int) (a b : Sp) (w : World) : Calls Try.prog 75 #[.int .u8 op, .agg #[.int .u64 (N a.lo), .int .u64 (N a.hi)], .agg #[.int .u64 (N b.lo), .int .u64 (N b.hi)]] w fun e w' => e = .returned (.tuple #[.agg #[.int .u64 (N ((Sp.if_ (op) a b).getD ⟨0, 0⟩).lo), .int .u64 (N ((Sp.if_ (op) a b).getD ⟨0, 0⟩).hi)], .bool (Sp.if_ (op) a b).isSome]) ∧ Below w.heap.size w w' := by
  cases ha : a.right
  · exact rsif_no1 op a b ha w
  cases hb : b.right
  · exact rsif_no2 op a b ha hb w
  by_cases n16 : op = 16
  · subst n16; exact rsif_eq a b ha hb w
  by_cases n48 : op = 48
  · subst n48; exact rsif_ge a b ha hb w
  by_cases n176 : op = 176
  · subst n176; exact rsif_le a b ha hb w
  by_cases n32 : op = 32
  · subst n32
    cases h : (18446744073709551615#64 == b.lo)
    · exact rsif_gt2 a b ha hb h w
    · exact rsif_gt1 a b ha hb h w
  by_cases n160 : op = 160
  · subst n160
    cases h : (0#64 == b.hi)
    · exact rsif_lt2 a b ha hb h w
    · exact rsif_lt1 a b ha hb h w
  by_cases n80 : op = 80
  · subst n80
    cases e : (b.lo == b.hi)
    · exact rsif_ne0 a b ha hb e w
    cases h1 : (a.lo == b.lo) <;> cases h2 : (a.hi == b.lo)
    · cases h3 : (a.lo == a.hi)
      · exact rsif_ne4f a b ha hb e h1 h2 h3 w
      · exact rsif_ne4t a b ha hb e h1 h2 h3 w
    · exact rsif_ne3 a b ha hb e h1 h2 w
    · exact rsif_ne2 a b ha hb e h1 h2 w
    · exact rsif_ne1 a b ha hb e h1 h2 w
  by_cases n64 : op = 64
  · subst n64
    cases h : (a.hi == 0#64)
    · cases h' : (b.hi == 0#64)
      · exact rsif_set2 a b ha hb h h' w
      · exact rsif_set1b a b ha hb h h' w
    · exact rsif_set1a a b ha hb h w
  exact rsif_else op a b ha hb n16 n32 n48 n160 n176 n80 n64 w

theorem rsif_c' (x0 : Int) (x1 y1 : BitVec 64) (x2 y2 : BitVec 64) (w : World) : Calls Try.prog 75 #[.int .u8 x0, .agg #[.int .u64 (N x1), .int .u64 (N y1)], .agg #[.int .u64 (N x2), .int .u64 (N y2)]] w fun e w' => e = .returned (.tuple #[.agg #[.int .u64 (N ((Sp.if_ x0 (⟨x1, y1⟩ : Sp) (⟨x2, y2⟩ : Sp)).getD ⟨0, 0⟩).lo), .int .u64 (N ((Sp.if_ x0 (⟨x1, y1⟩ : Sp) (⟨x2, y2⟩ : Sp)).getD ⟨0, 0⟩).hi)], .bool (Sp.if_ x0 (⟨x1, y1⟩ : Sp) (⟨x2, y2⟩ : Sp)).isSome]) ∧ Below w.heap.size w w' := by
  exact rsif_c x0 (⟨x1, y1⟩ : Sp) (⟨x2, y2⟩ : Sp) w

end Hk
