/- Package fact: makes, where it divides; old memory is as it was. No condition but those in each statement. -/
import Derived.Test.YtmhkngblpojeaaaProg
import Derived.Test.YtmhkngblpojeaaaGp
import Derived.Test.YtmhkngblpojeaaaGf
import Derived.Test.YtmhkngblpojeaaaFa5
import Derived.Test.YtmhkngblpojeaaaFa6
import Derived.Test.YtmhkngblpojeaaaGa
import Derived.Test.YtmhkngblpojeaaaSp3
import Derived.Test.YtmhkngblpojeaaaGl
import Derived.Test.YtmhkngblpojeaaaFa7
namespace Hk
open Go Go.RowKit Go.Proofs
set_option linter.unusedSimpArgs false
set_option linter.unusedVariables false
set_option maxRecDepth 100000
attribute [go_sem] Tn.eta Alu.val_some Alu.err_some Alu.val_none Alu.err_none
set_option maxHeartbeats 1000000 in
theorem mk_div0_a0 (wd : Bool) (x y : Fa) (t : Tn) (hx : Fa.known x = none) (hy : Fa.known y = none) (hd : Tn.do_ 48 x.t (y).t = none) (w : World) : Calls Try.prog 42 #[.int .u8 48, .bool wd, .int .i16 0, .agg #[.int .u64 (N x.t.v), .int .u64 (N x.t.m), .int .u64 (N x.s.lo), .int .u64 (N x.s.hi)], .agg #[.int .u64 (N y.t.v), .int .u64 (N y.t.m), .int .u64 (N y.s.lo), .int .u64 (N y.s.hi)]] w fun e w' => e = .returned (.agg #[.int .u64 (N (Fa.makes 48 wd 0 x y).t.v), .int .u64 (N (Fa.makes 48 wd 0 x y).t.m), .int .u64 (N (Fa.makes 48 wd 0 x y).s.lo), .int .u64 (N (Fa.makes 48 wd 0 x y).s.hi)]) ∧ Below w.heap.size w w' := by
  rw [Fa.mk_div0 (.inl hx) (by rw [hy]; simp), Fa.plain_none hd]
  go_enter Try.func42, Try.ntmps42
  go_wp2_with (first | (go_at_call 20; (with_reducible refine (fknown_c' _ _ _ _ _).mono ?_); rintro e w1 ⟨rfl, hb1⟩; obtain ⟨hc1, hf1, hz1⟩ := bcell hb1; (try simp only [World.size_alloc, World.size_setCell, World.size_drew] at hc1 hf1 hz1)) | (go_at_call 85; (with_reducible refine (found_48 _).mono ?_); rintro e w1 ⟨rfl, rfl⟩) | (go_at_call 41; (with_reducible refine (ado_c _ _ _ _ _ _).mono ?_); rintro e w1 ⟨rfl, rfl⟩) | (go_at_call 17; (with_reducible refine (fof_c' _ _).mono ?_); rintro e w1 ⟨rfl, hb1⟩; obtain ⟨hc1, hf1, hz1⟩ := bcell hb1; (try simp only [World.size_alloc, World.size_setCell, World.size_drew] at hc1 hf1 hz1)) | (go_at_call 25; (with_reducible refine (fany_c _).mono ?_); rintro e w1 ⟨rfl, hb1⟩; obtain ⟨hc1, hf1, hz1⟩ := bcell hb1; (try simp only [World.size_alloc, World.size_setCell, World.size_drew] at hc1 hf1 hz1)))
  go_wp2_with fail
  refine (do_c' _ _ _ _ _ _).mono ?_
  rintro e wT ⟨rfl, hbwT⟩
  obtain ⟨hcwT, hfwT, hzwT⟩ := bcell hbwT
  (try simp only [World.size_alloc, World.size_setCell, World.size_drew] at hcwT hfwT hzwT)
  go_wp2_with (first | (go_at_call 25; (with_reducible refine (fany_c _).mono ?_); rintro e w1 ⟨rfl, hb1⟩; obtain ⟨hc1, hf1, hz1⟩ := bcell hb1; (try simp only [World.size_alloc, World.size_setCell, World.size_drew] at hc1 hf1 hz1)))
  refine wp_region_class_tail (MkC x y Fa.zero Fa.any.t w wT) 8 (by kernel_rfl) (by kernel_rfl) ?_ ?_
  · refine ⟨?_, ?_, ?_, ?_, ?_, ?_, ?_, ?_, ?_, ?_, ?_, ?_, ?_, ?_, ?_, (by repeat' (first | (with_reducible exact Below.refl _ _) | (with_reducible assumption) | (with_reducible refine Below.alloc ?_ ?_ _) | (with_reducible refine Below.setCell ?_ ?_ _) | (with_reducible refine Below.drew ?_) | (with_reducible refine below_dn ?_ _) | (with_reducible refine Below.trans ?_ (Below.mono (by assumption) ?_)) | go_size))⟩
    all_goals first | (intro i; simp [*, go_sem, ↓IntWalk.iteOmega]; done) | (simp [*, go_sem, ↓IntWalk.iteOmega]; done)
  clear hbwT hcwT hfwT hzwT
  intro hN
  (try simp only [List.append])
  simp only [List.take_succ_cons, List.take_zero, List.drop_succ_cons, List.drop_zero]
  repeat (first
    | go_big_quiet_skip
    | (go_big_quiet_want
       first
         | (refine quiet_load_Tn rfl rfl (fun w' hC => by obtain ⟨k0, k1, k2, k3, k4, k5, k6, k7, k8, k9, k10, k11, k12, k13, k14, k15⟩ := hC; first | exact ⟨k0, k1⟩ | exact ⟨k1, k2⟩ | exact ⟨k2, k3⟩ | exact ⟨k3, k4⟩ | exact ⟨k4, k5⟩ | exact ⟨k5, k6⟩ | exact ⟨k6, k7⟩ | exact ⟨k7, k8⟩ | exact ⟨k8, k9⟩ | exact ⟨k9, k10⟩ | exact ⟨k10, k11⟩ | exact ⟨k11, k12⟩ | exact ⟨k12, k13⟩) ?_
            simp only [Act.put, List.setIfInBounds_toArray, List.set_cons_succ, List.set_cons_zero]
            go_big_quiet_on)
         | (refine quiet_load_Sp rfl rfl (fun w' hC => by obtain ⟨k0, k1, k2, k3, k4, k5, k6, k7, k8, k9, k10, k11, k12, k13, k14, k15⟩ := hC; first | exact ⟨k0, k1⟩ | exact ⟨k1, k2⟩ | exact ⟨k2, k3⟩ | exact ⟨k3, k4⟩ | exact ⟨k4, k5⟩ | exact ⟨k5, k6⟩ | exact ⟨k6, k7⟩ | exact ⟨k7, k8⟩ | exact ⟨k8, k9⟩ | exact ⟨k9, k10⟩ | exact ⟨k10, k11⟩ | exact ⟨k11, k12⟩ | exact ⟨k12, k13⟩) ?_
            simp only [Act.put, List.setIfInBounds_toArray, List.set_cons_succ, List.set_cons_zero]
            go_big_quiet_on)
         | (refine quiet_load_Fa rfl rfl (fun w' hC => by obtain ⟨k0, k1, k2, k3, k4, k5, k6, k7, k8, k9, k10, k11, k12, k13, k14, k15⟩ := hC; first | exact ⟨k0, k1, k2, k3⟩ | exact ⟨k1, k2, k3, k4⟩ | exact ⟨k2, k3, k4, k5⟩ | exact ⟨k3, k4, k5, k6⟩ | exact ⟨k4, k5, k6, k7⟩ | exact ⟨k5, k6, k7, k8⟩ | exact ⟨k6, k7, k8, k9⟩ | exact ⟨k7, k8, k9, k10⟩ | exact ⟨k8, k9, k10, k11⟩ | exact ⟨k9, k10, k11, k12⟩ | exact ⟨k10, k11, k12, k13⟩) ?_
            simp only [Act.put, List.setIfInBounds_toArray, List.set_cons_succ, List.set_cons_zero]
            go_big_quiet_on)
         | (refine quiet_load_W rfl rfl (fun w' hC => by obtain ⟨k0, k1, k2, k3, k4, k5, k6, k7, k8, k9, k10, k11, k12, k13, k14, k15⟩ := hC; first | exact k0 | exact k1 | exact k2 | exact k3 | exact k4 | exact k5 | exact k6 | exact k7 | exact k8 | exact k9 | exact k10 | exact k11 | exact k12 | exact k13) ?_
            simp only [Act.put, List.setIfInBounds_toArray, List.set_cons_succ, List.set_cons_zero]
            go_big_quiet_on)
         | (go_big_quiet_op
            first
              | go_big_quiet_on
              | (apply Exists.intro
                 refine ⟨fun w' hC => ?_, ?_⟩
                 · (first | (go_at_call 87; (with_reducible refine (sdo_c' _ _ _ _ _ _).mono ?_); rintro e w1 ⟨rfl, hb1⟩) | (go_at_call 67; (with_reducible refine (fsettled_c' _ _ _ _ _).mono ?_); rintro e w1 ⟨rfl, hb1⟩))
                   (try simp only [Tn.eta, Sp.eta, Fa.eta])
                   exact ⟨rfl, by first | exact hC | exact MkC_keep _ _ hC hb1⟩
                 go_big_quiet_on))))
  refine wpQuiet_nil ?_
  intro w9 hC
  obtain ⟨k0, k1, k2, k3, k4, k5, k6, k7, k8, k9, k10, k11, k12, k13, k14, k15⟩ := hC
  have z0 := cell_lt k0
  have z4 := cell_lt k4
  have z8 := cell_lt k8
  have z12 := cell_lt k12
  go_wp2
  refine bodyPost_ret ?_ rfl ⟨rfl, (by repeat' (first | (with_reducible exact Below.refl _ _) | (with_reducible assumption) | (with_reducible refine Below.alloc ?_ ?_ _) | (with_reducible refine Below.setCell ?_ ?_ _) | (with_reducible refine Below.drew ?_) | (with_reducible refine below_dn ?_ _) | (with_reducible refine Below.trans ?_ (Below.mono (by assumption) ?_)) | go_size))⟩
  simp only [results, Try.results42]; simp [*, go_sem, ↓IntWalk.iteOmega]; try (first | rfl | exact ⟨rfl, rfl⟩)

set_option maxHeartbeats 1000000 in
theorem mk_div0_a1 (wd : Bool) (x y : Fa) (t : Tn) (hx : Fa.known x = none) (hy : Fa.known y = none) (hd : Tn.do_ 48 x.t (y).t = some t) (w : World) : Calls Try.prog 42 #[.int .u8 48, .bool wd, .int .i16 0, .agg #[.int .u64 (N x.t.v), .int .u64 (N x.t.m), .int .u64 (N x.s.lo), .int .u64 (N x.s.hi)], .agg #[.int .u64 (N y.t.v), .int .u64 (N y.t.m), .int .u64 (N y.s.lo), .int .u64 (N y.s.hi)]] w fun e w' => e = .returned (.agg #[.int .u64 (N (Fa.makes 48 wd 0 x y).t.v), .int .u64 (N (Fa.makes 48 wd 0 x y).t.m), .int .u64 (N (Fa.makes 48 wd 0 x y).s.lo), .int .u64 (N (Fa.makes 48 wd 0 x y).s.hi)]) ∧ Below w.heap.size w w' := by
  rw [Fa.mk_div0 (.inl hx) (by rw [hy]; simp), Fa.plain_some hd]
  go_enter Try.func42, Try.ntmps42
  go_wp2_with (first | (go_at_call 20; (with_reducible refine (fknown_c' _ _ _ _ _).mono ?_); rintro e w1 ⟨rfl, hb1⟩; obtain ⟨hc1, hf1, hz1⟩ := bcell hb1; (try simp only [World.size_alloc, World.size_setCell, World.size_drew] at hc1 hf1 hz1)) | (go_at_call 85; (with_reducible refine (found_48 _).mono ?_); rintro e w1 ⟨rfl, rfl⟩) | (go_at_call 41; (with_reducible refine (ado_c _ _ _ _ _ _).mono ?_); rintro e w1 ⟨rfl, rfl⟩) | (go_at_call 17; (with_reducible refine (fof_c' _ _).mono ?_); rintro e w1 ⟨rfl, hb1⟩; obtain ⟨hc1, hf1, hz1⟩ := bcell hb1; (try simp only [World.size_alloc, World.size_setCell, World.size_drew] at hc1 hf1 hz1)) | (go_at_call 25; (with_reducible refine (fany_c _).mono ?_); rintro e w1 ⟨rfl, hb1⟩; obtain ⟨hc1, hf1, hz1⟩ := bcell hb1; (try simp only [World.size_alloc, World.size_setCell, World.size_drew] at hc1 hf1 hz1)))
  go_wp2_with fail
  refine (do_c' _ _ _ _ _ _).mono ?_
  rintro e wT ⟨rfl, hbwT⟩
  obtain ⟨hcwT, hfwT, hzwT⟩ := bcell hbwT
  (try simp only [World.size_alloc, World.size_setCell, World.size_drew] at hcwT hfwT hzwT)
  go_wp2_with (first | (go_at_call 25; (with_reducible refine (fany_c _).mono ?_); rintro e w1 ⟨rfl, hb1⟩; obtain ⟨hc1, hf1, hz1⟩ := bcell hb1; (try simp only [World.size_alloc, World.size_setCell, World.size_drew] at hc1 hf1 hz1)))
  refine wp_region_class_tail (MkC x y Fa.zero t w wT) 8 (by kernel_rfl) (by kernel_rfl) ?_ ?_
  · refine ⟨?_, ?_, ?_, ?_, ?_, ?_, ?_, ?_, ?_, ?_, ?_, ?_, ?_, ?_, ?_, (by repeat' (first | (with_reducible exact Below.refl _ _) | (with_reducible assumption) | (with_reducible refine Below.alloc ?_ ?_ _) | (with_reducible refine Below.setCell ?_ ?_ _) | (with_reducible refine Below.drew ?_) | (with_reducible refine below_dn ?_ _) | (with_reducible refine Below.trans ?_ (Below.mono (by assumption) ?_)) | go_size))⟩
    all_goals first | (intro i; simp [*, go_sem, ↓IntWalk.iteOmega]; done) | (simp [*, go_sem, ↓IntWalk.iteOmega]; done)
  clear hbwT hcwT hfwT hzwT
  intro hN
  (try simp only [List.append])
  simp only [List.take_succ_cons, List.take_zero, List.drop_succ_cons, List.drop_zero]
  repeat (first
    | go_big_quiet_skip
    | (go_big_quiet_want
       first
         | (refine quiet_load_Tn rfl rfl (fun w' hC => by obtain ⟨k0, k1, k2, k3, k4, k5, k6, k7, k8, k9, k10, k11, k12, k13, k14, k15⟩ := hC; first | exact ⟨k0, k1⟩ | exact ⟨k1, k2⟩ | exact ⟨k2, k3⟩ | exact ⟨k3, k4⟩ | exact ⟨k4, k5⟩ | exact ⟨k5, k6⟩ | exact ⟨k6, k7⟩ | exact ⟨k7, k8⟩ | exact ⟨k8, k9⟩ | exact ⟨k9, k10⟩ | exact ⟨k10, k11⟩ | exact ⟨k11, k12⟩ | exact ⟨k12, k13⟩) ?_
            simp only [Act.put, List.setIfInBounds_toArray, List.set_cons_succ, List.set_cons_zero]
            go_big_quiet_on)
         | (refine quiet_load_Sp rfl rfl (fun w' hC => by obtain ⟨k0, k1, k2, k3, k4, k5, k6, k7, k8, k9, k10, k11, k12, k13, k14, k15⟩ := hC; first | exact ⟨k0, k1⟩ | exact ⟨k1, k2⟩ | exact ⟨k2, k3⟩ | exact ⟨k3, k4⟩ | exact ⟨k4, k5⟩ | exact ⟨k5, k6⟩ | exact ⟨k6, k7⟩ | exact ⟨k7, k8⟩ | exact ⟨k8, k9⟩ | exact ⟨k9, k10⟩ | exact ⟨k10, k11⟩ | exact ⟨k11, k12⟩ | exact ⟨k12, k13⟩) ?_
            simp only [Act.put, List.setIfInBounds_toArray, List.set_cons_succ, List.set_cons_zero]
            go_big_quiet_on)
         | (refine quiet_load_Fa rfl rfl (fun w' hC => by obtain ⟨k0, k1, k2, k3, k4, k5, k6, k7, k8, k9, k10, k11, k12, k13, k14, k15⟩ := hC; first | exact ⟨k0, k1, k2, k3⟩ | exact ⟨k1, k2, k3, k4⟩ | exact ⟨k2, k3, k4, k5⟩ | exact ⟨k3, k4, k5, k6⟩ | exact ⟨k4, k5, k6, k7⟩ | exact ⟨k5, k6, k7, k8⟩ | exact ⟨k6, k7, k8, k9⟩ | exact ⟨k7, k8, k9, k10⟩ | exact ⟨k8, k9, k10, k11⟩ | exact ⟨k9, k10, k11, k12⟩ | exact ⟨k10, k11, k12, k13⟩) ?_
            simp only [Act.put, List.setIfInBounds_toArray, List.set_cons_succ, List.set_cons_zero]
            go_big_quiet_on)
         | (refine quiet_load_W rfl rfl (fun w' hC => by obtain ⟨k0, k1, k2, k3, k4, k5, k6, k7, k8, k9, k10, k11, k12, k13, k14, k15⟩ := hC; first | exact k0 | exact k1 | exact k2 | exact k3 | exact k4 | exact k5 | exact k6 | exact k7 | exact k8 | exact k9 | exact k10 | exact k11 | exact k12 | exact k13) ?_
            simp only [Act.put, List.setIfInBounds_toArray, List.set_cons_succ, List.set_cons_zero]
            go_big_quiet_on)
         | (go_big_quiet_op
            first
              | go_big_quiet_on
              | (apply Exists.intro
                 refine ⟨fun w' hC => ?_, ?_⟩
                 · (first | (go_at_call 87; (with_reducible refine (sdo_c' _ _ _ _ _ _).mono ?_); rintro e w1 ⟨rfl, hb1⟩) | (go_at_call 67; (with_reducible refine (fsettled_c' _ _ _ _ _).mono ?_); rintro e w1 ⟨rfl, hb1⟩))
                   (try simp only [Tn.eta, Sp.eta, Fa.eta])
                   exact ⟨rfl, by first | exact hC | exact MkC_keep _ _ hC hb1⟩
                 go_big_quiet_on))))
  refine wpQuiet_nil ?_
  intro w9 hC
  obtain ⟨k0, k1, k2, k3, k4, k5, k6, k7, k8, k9, k10, k11, k12, k13, k14, k15⟩ := hC
  have z0 := cell_lt k0
  have z4 := cell_lt k4
  have z8 := cell_lt k8
  have z12 := cell_lt k12
  go_wp2
  refine bodyPost_ret ?_ rfl ⟨rfl, (by repeat' (first | (with_reducible exact Below.refl _ _) | (with_reducible assumption) | (with_reducible refine Below.alloc ?_ ?_ _) | (with_reducible refine Below.setCell ?_ ?_ _) | (with_reducible refine Below.drew ?_) | (with_reducible refine below_dn ?_ _) | (with_reducible refine Below.trans ?_ (Below.mono (by assumption) ?_)) | go_size))⟩
  simp only [results, Try.results42]; simp [*, go_sem, ↓IntWalk.iteOmega]; try (first | rfl | exact ⟨rfl, rfl⟩)

set_option maxHeartbeats 1000000 in
theorem mk_div0_b0 (wd : Bool) (x y : Fa) (t : Tn) (p : BitVec 64) (hx : Fa.known x = some p) (hy : Fa.known y = none) (hd : Tn.do_ 48 x.t (y).t = none) (w : World) : Calls Try.prog 42 #[.int .u8 48, .bool wd, .int .i16 0, .agg #[.int .u64 (N x.t.v), .int .u64 (N x.t.m), .int .u64 (N x.s.lo), .int .u64 (N x.s.hi)], .agg #[.int .u64 (N y.t.v), .int .u64 (N y.t.m), .int .u64 (N y.s.lo), .int .u64 (N y.s.hi)]] w fun e w' => e = .returned (.agg #[.int .u64 (N (Fa.makes 48 wd 0 x y).t.v), .int .u64 (N (Fa.makes 48 wd 0 x y).t.m), .int .u64 (N (Fa.makes 48 wd 0 x y).s.lo), .int .u64 (N (Fa.makes 48 wd 0 x y).s.hi)]) ∧ Below w.heap.size w w' := by
  rw [Fa.mk_div0 (.inr hy) (by rw [hy]; simp), Fa.plain_none hd]
  go_enter Try.func42, Try.ntmps42
  go_wp2_with (first | (go_at_call 20; (with_reducible refine (fknown_c' _ _ _ _ _).mono ?_); rintro e w1 ⟨rfl, hb1⟩; obtain ⟨hc1, hf1, hz1⟩ := bcell hb1; (try simp only [World.size_alloc, World.size_setCell, World.size_drew] at hc1 hf1 hz1)) | (go_at_call 85; (with_reducible refine (found_48 _).mono ?_); rintro e w1 ⟨rfl, rfl⟩) | (go_at_call 41; (with_reducible refine (ado_c _ _ _ _ _ _).mono ?_); rintro e w1 ⟨rfl, rfl⟩) | (go_at_call 17; (with_reducible refine (fof_c' _ _).mono ?_); rintro e w1 ⟨rfl, hb1⟩; obtain ⟨hc1, hf1, hz1⟩ := bcell hb1; (try simp only [World.size_alloc, World.size_setCell, World.size_drew] at hc1 hf1 hz1)) | (go_at_call 25; (with_reducible refine (fany_c _).mono ?_); rintro e w1 ⟨rfl, hb1⟩; obtain ⟨hc1, hf1, hz1⟩ := bcell hb1; (try simp only [World.size_alloc, World.size_setCell, World.size_drew] at hc1 hf1 hz1)))
  go_wp2_with fail
  refine (do_c' _ _ _ _ _ _).mono ?_
  rintro e wT ⟨rfl, hbwT⟩
  obtain ⟨hcwT, hfwT, hzwT⟩ := bcell hbwT
  (try simp only [World.size_alloc, World.size_setCell, World.size_drew] at hcwT hfwT hzwT)
  go_wp2_with (first | (go_at_call 25; (with_reducible refine (fany_c _).mono ?_); rintro e w1 ⟨rfl, hb1⟩; obtain ⟨hc1, hf1, hz1⟩ := bcell hb1; (try simp only [World.size_alloc, World.size_setCell, World.size_drew] at hc1 hf1 hz1)))
  refine wp_region_class_tail (MkC x y Fa.zero Fa.any.t w wT) 8 (by kernel_rfl) (by kernel_rfl) ?_ ?_
  · refine ⟨?_, ?_, ?_, ?_, ?_, ?_, ?_, ?_, ?_, ?_, ?_, ?_, ?_, ?_, ?_, (by repeat' (first | (with_reducible exact Below.refl _ _) | (with_reducible assumption) | (with_reducible refine Below.alloc ?_ ?_ _) | (with_reducible refine Below.setCell ?_ ?_ _) | (with_reducible refine Below.drew ?_) | (with_reducible refine below_dn ?_ _) | (with_reducible refine Below.trans ?_ (Below.mono (by assumption) ?_)) | go_size))⟩
    all_goals first | (intro i; simp [*, go_sem, ↓IntWalk.iteOmega]; done) | (simp [*, go_sem, ↓IntWalk.iteOmega]; done)
  clear hbwT hcwT hfwT hzwT
  intro hN
  (try simp only [List.append])
  simp only [List.take_succ_cons, List.take_zero, List.drop_succ_cons, List.drop_zero]
  repeat (first
    | go_big_quiet_skip
    | (go_big_quiet_want
       first
         | (refine quiet_load_Tn rfl rfl (fun w' hC => by obtain ⟨k0, k1, k2, k3, k4, k5, k6, k7, k8, k9, k10, k11, k12, k13, k14, k15⟩ := hC; first | exact ⟨k0, k1⟩ | exact ⟨k1, k2⟩ | exact ⟨k2, k3⟩ | exact ⟨k3, k4⟩ | exact ⟨k4, k5⟩ | exact ⟨k5, k6⟩ | exact ⟨k6, k7⟩ | exact ⟨k7, k8⟩ | exact ⟨k8, k9⟩ | exact ⟨k9, k10⟩ | exact ⟨k10, k11⟩ | exact ⟨k11, k12⟩ | exact ⟨k12, k13⟩) ?_
            simp only [Act.put, List.setIfInBounds_toArray, List.set_cons_succ, List.set_cons_zero]
            go_big_quiet_on)
         | (refine quiet_load_Sp rfl rfl (fun w' hC => by obtain ⟨k0, k1, k2, k3, k4, k5, k6, k7, k8, k9, k10, k11, k12, k13, k14, k15⟩ := hC; first | exact ⟨k0, k1⟩ | exact ⟨k1, k2⟩ | exact ⟨k2, k3⟩ | exact ⟨k3, k4⟩ | exact ⟨k4, k5⟩ | exact ⟨k5, k6⟩ | exact ⟨k6, k7⟩ | exact ⟨k7, k8⟩ | exact ⟨k8, k9⟩ | exact ⟨k9, k10⟩ | exact ⟨k10, k11⟩ | exact ⟨k11, k12⟩ | exact ⟨k12, k13⟩) ?_
            simp only [Act.put, List.setIfInBounds_toArray, List.set_cons_succ, List.set_cons_zero]
            go_big_quiet_on)
         | (refine quiet_load_Fa rfl rfl (fun w' hC => by obtain ⟨k0, k1, k2, k3, k4, k5, k6, k7, k8, k9, k10, k11, k12, k13, k14, k15⟩ := hC; first | exact ⟨k0, k1, k2, k3⟩ | exact ⟨k1, k2, k3, k4⟩ | exact ⟨k2, k3, k4, k5⟩ | exact ⟨k3, k4, k5, k6⟩ | exact ⟨k4, k5, k6, k7⟩ | exact ⟨k5, k6, k7, k8⟩ | exact ⟨k6, k7, k8, k9⟩ | exact ⟨k7, k8, k9, k10⟩ | exact ⟨k8, k9, k10, k11⟩ | exact ⟨k9, k10, k11, k12⟩ | exact ⟨k10, k11, k12, k13⟩) ?_
            simp only [Act.put, List.setIfInBounds_toArray, List.set_cons_succ, List.set_cons_zero]
            go_big_quiet_on)
         | (refine quiet_load_W rfl rfl (fun w' hC => by obtain ⟨k0, k1, k2, k3, k4, k5, k6, k7, k8, k9, k10, k11, k12, k13, k14, k15⟩ := hC; first | exact k0 | exact k1 | exact k2 | exact k3 | exact k4 | exact k5 | exact k6 | exact k7 | exact k8 | exact k9 | exact k10 | exact k11 | exact k12 | exact k13) ?_
            simp only [Act.put, List.setIfInBounds_toArray, List.set_cons_succ, List.set_cons_zero]
            go_big_quiet_on)
         | (go_big_quiet_op
            first
              | go_big_quiet_on
              | (apply Exists.intro
                 refine ⟨fun w' hC => ?_, ?_⟩
                 · (first | (go_at_call 87; (with_reducible refine (sdo_c' _ _ _ _ _ _).mono ?_); rintro e w1 ⟨rfl, hb1⟩) | (go_at_call 67; (with_reducible refine (fsettled_c' _ _ _ _ _).mono ?_); rintro e w1 ⟨rfl, hb1⟩))
                   (try simp only [Tn.eta, Sp.eta, Fa.eta])
                   exact ⟨rfl, by first | exact hC | exact MkC_keep _ _ hC hb1⟩
                 go_big_quiet_on))))
  refine wpQuiet_nil ?_
  intro w9 hC
  obtain ⟨k0, k1, k2, k3, k4, k5, k6, k7, k8, k9, k10, k11, k12, k13, k14, k15⟩ := hC
  have z0 := cell_lt k0
  have z4 := cell_lt k4
  have z8 := cell_lt k8
  have z12 := cell_lt k12
  go_wp2
  refine bodyPost_ret ?_ rfl ⟨rfl, (by repeat' (first | (with_reducible exact Below.refl _ _) | (with_reducible assumption) | (with_reducible refine Below.alloc ?_ ?_ _) | (with_reducible refine Below.setCell ?_ ?_ _) | (with_reducible refine Below.drew ?_) | (with_reducible refine below_dn ?_ _) | (with_reducible refine Below.trans ?_ (Below.mono (by assumption) ?_)) | go_size))⟩
  simp only [results, Try.results42]; simp [*, go_sem, ↓IntWalk.iteOmega]; try (first | rfl | exact ⟨rfl, rfl⟩)

set_option maxHeartbeats 1000000 in
theorem mk_div0_b1 (wd : Bool) (x y : Fa) (t : Tn) (p : BitVec 64) (hx : Fa.known x = some p) (hy : Fa.known y = none) (hd : Tn.do_ 48 x.t (y).t = some t) (w : World) : Calls Try.prog 42 #[.int .u8 48, .bool wd, .int .i16 0, .agg #[.int .u64 (N x.t.v), .int .u64 (N x.t.m), .int .u64 (N x.s.lo), .int .u64 (N x.s.hi)], .agg #[.int .u64 (N y.t.v), .int .u64 (N y.t.m), .int .u64 (N y.s.lo), .int .u64 (N y.s.hi)]] w fun e w' => e = .returned (.agg #[.int .u64 (N (Fa.makes 48 wd 0 x y).t.v), .int .u64 (N (Fa.makes 48 wd 0 x y).t.m), .int .u64 (N (Fa.makes 48 wd 0 x y).s.lo), .int .u64 (N (Fa.makes 48 wd 0 x y).s.hi)]) ∧ Below w.heap.size w w' := by
  rw [Fa.mk_div0 (.inr hy) (by rw [hy]; simp), Fa.plain_some hd]
  go_enter Try.func42, Try.ntmps42
  go_wp2_with (first | (go_at_call 20; (with_reducible refine (fknown_c' _ _ _ _ _).mono ?_); rintro e w1 ⟨rfl, hb1⟩; obtain ⟨hc1, hf1, hz1⟩ := bcell hb1; (try simp only [World.size_alloc, World.size_setCell, World.size_drew] at hc1 hf1 hz1)) | (go_at_call 85; (with_reducible refine (found_48 _).mono ?_); rintro e w1 ⟨rfl, rfl⟩) | (go_at_call 41; (with_reducible refine (ado_c _ _ _ _ _ _).mono ?_); rintro e w1 ⟨rfl, rfl⟩) | (go_at_call 17; (with_reducible refine (fof_c' _ _).mono ?_); rintro e w1 ⟨rfl, hb1⟩; obtain ⟨hc1, hf1, hz1⟩ := bcell hb1; (try simp only [World.size_alloc, World.size_setCell, World.size_drew] at hc1 hf1 hz1)) | (go_at_call 25; (with_reducible refine (fany_c _).mono ?_); rintro e w1 ⟨rfl, hb1⟩; obtain ⟨hc1, hf1, hz1⟩ := bcell hb1; (try simp only [World.size_alloc, World.size_setCell, World.size_drew] at hc1 hf1 hz1)))
  go_wp2_with fail
  refine (do_c' _ _ _ _ _ _).mono ?_
  rintro e wT ⟨rfl, hbwT⟩
  obtain ⟨hcwT, hfwT, hzwT⟩ := bcell hbwT
  (try simp only [World.size_alloc, World.size_setCell, World.size_drew] at hcwT hfwT hzwT)
  go_wp2_with (first | (go_at_call 25; (with_reducible refine (fany_c _).mono ?_); rintro e w1 ⟨rfl, hb1⟩; obtain ⟨hc1, hf1, hz1⟩ := bcell hb1; (try simp only [World.size_alloc, World.size_setCell, World.size_drew] at hc1 hf1 hz1)))
  refine wp_region_class_tail (MkC x y Fa.zero t w wT) 8 (by kernel_rfl) (by kernel_rfl) ?_ ?_
  · refine ⟨?_, ?_, ?_, ?_, ?_, ?_, ?_, ?_, ?_, ?_, ?_, ?_, ?_, ?_, ?_, (by repeat' (first | (with_reducible exact Below.refl _ _) | (with_reducible assumption) | (with_reducible refine Below.alloc ?_ ?_ _) | (with_reducible refine Below.setCell ?_ ?_ _) | (with_reducible refine Below.drew ?_) | (with_reducible refine below_dn ?_ _) | (with_reducible refine Below.trans ?_ (Below.mono (by assumption) ?_)) | go_size))⟩
    all_goals first | (intro i; simp [*, go_sem, ↓IntWalk.iteOmega]; done) | (simp [*, go_sem, ↓IntWalk.iteOmega]; done)
  clear hbwT hcwT hfwT hzwT
  intro hN
  (try simp only [List.append])
  simp only [List.take_succ_cons, List.take_zero, List.drop_succ_cons, List.drop_zero]
  repeat (first
    | go_big_quiet_skip
    | (go_big_quiet_want
       first
         | (refine quiet_load_Tn rfl rfl (fun w' hC => by obtain ⟨k0, k1, k2, k3, k4, k5, k6, k7, k8, k9, k10, k11, k12, k13, k14, k15⟩ := hC; first | exact ⟨k0, k1⟩ | exact ⟨k1, k2⟩ | exact ⟨k2, k3⟩ | exact ⟨k3, k4⟩ | exact ⟨k4, k5⟩ | exact ⟨k5, k6⟩ | exact ⟨k6, k7⟩ | exact ⟨k7, k8⟩ | exact ⟨k8, k9⟩ | exact ⟨k9, k10⟩ | exact ⟨k10, k11⟩ | exact ⟨k11, k12⟩ | exact ⟨k12, k13⟩) ?_
            simp only [Act.put, List.setIfInBounds_toArray, List.set_cons_succ, List.set_cons_zero]
            go_big_quiet_on)
         | (refine quiet_load_Sp rfl rfl (fun w' hC => by obtain ⟨k0, k1, k2, k3, k4, k5, k6, k7, k8, k9, k10, k11, k12, k13, k14, k15⟩ := hC; first | exact ⟨k0, k1⟩ | exact ⟨k1, k2⟩ | exact ⟨k2, k3⟩ | exact ⟨k3, k4⟩ | exact ⟨k4, k5⟩ | exact ⟨k5, k6⟩ | exact ⟨k6, k7⟩ | exact ⟨k7, k8⟩ | exact ⟨k8, k9⟩ | exact ⟨k9, k10⟩ | exact ⟨k10, k11⟩ | exact ⟨k11, k12⟩ | exact ⟨k12, k13⟩) ?_
            simp only [Act.put, List.setIfInBounds_toArray, List.set_cons_succ, List.set_cons_zero]
            go_big_quiet_on)
         | (refine quiet_load_Fa rfl rfl (fun w' hC => by obtain ⟨k0, k1, k2, k3, k4, k5, k6, k7, k8, k9, k10, k11, k12, k13, k14, k15⟩ := hC; first | exact ⟨k0, k1, k2, k3⟩ | exact ⟨k1, k2, k3, k4⟩ | exact ⟨k2, k3, k4, k5⟩ | exact ⟨k3, k4, k5, k6⟩ | exact ⟨k4, k5, k6, k7⟩ | exact ⟨k5, k6, k7, k8⟩ | exact ⟨k6, k7, k8, k9⟩ | exact ⟨k7, k8, k9, k10⟩ | exact ⟨k8, k9, k10, k11⟩ | exact ⟨k9, k10, k11, k12⟩ | exact ⟨k10, k11, k12, k13⟩) ?_
            simp only [Act.put, List.setIfInBounds_toArray, List.set_cons_succ, List.set_cons_zero]
            go_big_quiet_on)
         | (refine quiet_load_W rfl rfl (fun w' hC => by obtain ⟨k0, k1, k2, k3, k4, k5, k6, k7, k8, k9, k10, k11, k12, k13, k14, k15⟩ := hC; first | exact k0 | exact k1 | exact k2 | exact k3 | exact k4 | exact k5 | exact k6 | exact k7 | exact k8 | exact k9 | exact k10 | exact k11 | exact k12 | exact k13) ?_
            simp only [Act.put, List.setIfInBounds_toArray, List.set_cons_succ, List.set_cons_zero]
            go_big_quiet_on)
         | (go_big_quiet_op
            first
              | go_big_quiet_on
              | (apply Exists.intro
                 refine ⟨fun w' hC => ?_, ?_⟩
                 · (first | (go_at_call 87; (with_reducible refine (sdo_c' _ _ _ _ _ _).mono ?_); rintro e w1 ⟨rfl, hb1⟩) | (go_at_call 67; (with_reducible refine (fsettled_c' _ _ _ _ _).mono ?_); rintro e w1 ⟨rfl, hb1⟩))
                   (try simp only [Tn.eta, Sp.eta, Fa.eta])
                   exact ⟨rfl, by first | exact hC | exact MkC_keep _ _ hC hb1⟩
                 go_big_quiet_on))))
  refine wpQuiet_nil ?_
  intro w9 hC
  obtain ⟨k0, k1, k2, k3, k4, k5, k6, k7, k8, k9, k10, k11, k12, k13, k14, k15⟩ := hC
  have z0 := cell_lt k0
  have z4 := cell_lt k4
  have z8 := cell_lt k8
  have z12 := cell_lt k12
  go_wp2
  refine bodyPost_ret ?_ rfl ⟨rfl, (by repeat' (first | (with_reducible exact Below.refl _ _) | (with_reducible assumption) | (with_reducible refine Below.alloc ?_ ?_ _) | (with_reducible refine Below.setCell ?_ ?_ _) | (with_reducible refine Below.drew ?_) | (with_reducible refine below_dn ?_ _) | (with_reducible refine Below.trans ?_ (Below.mono (by assumption) ?_)) | go_size))⟩
  simp only [results, Try.results42]; simp [*, go_sem, ↓IntWalk.iteOmega]; try (first | rfl | exact ⟨rfl, rfl⟩)

set_option maxHeartbeats 1000000 in
theorem mk_div0_c0 (wd : Bool) (x y : Fa) (t : Tn) (q : BitVec 64) (hx : Fa.known x = none) (hy : Fa.known y = some q) (hq : (q == 0#64) = false) (hd : Tn.do_ 48 x.t (y).t = none) (w : World) : Calls Try.prog 42 #[.int .u8 48, .bool wd, .int .i16 0, .agg #[.int .u64 (N x.t.v), .int .u64 (N x.t.m), .int .u64 (N x.s.lo), .int .u64 (N x.s.hi)], .agg #[.int .u64 (N y.t.v), .int .u64 (N y.t.m), .int .u64 (N y.s.lo), .int .u64 (N y.s.hi)]] w fun e w' => e = .returned (.agg #[.int .u64 (N (Fa.makes 48 wd 0 x y).t.v), .int .u64 (N (Fa.makes 48 wd 0 x y).t.m), .int .u64 (N (Fa.makes 48 wd 0 x y).s.lo), .int .u64 (N (Fa.makes 48 wd 0 x y).s.hi)]) ∧ Below w.heap.size w w' := by
  rw [Fa.mk_div0 (.inl hx) (by rw [hy]; simpa using hq), Fa.plain_none hd]
  go_enter Try.func42, Try.ntmps42
  go_wp2_with (first | (go_at_call 20; (with_reducible refine (fknown_c' _ _ _ _ _).mono ?_); rintro e w1 ⟨rfl, hb1⟩; obtain ⟨hc1, hf1, hz1⟩ := bcell hb1; (try simp only [World.size_alloc, World.size_setCell, World.size_drew] at hc1 hf1 hz1)) | (go_at_call 85; (with_reducible refine (found_48 _).mono ?_); rintro e w1 ⟨rfl, rfl⟩) | (go_at_call 41; (with_reducible refine (ado_c _ _ _ _ _ _).mono ?_); rintro e w1 ⟨rfl, rfl⟩) | (go_at_call 17; (with_reducible refine (fof_c' _ _).mono ?_); rintro e w1 ⟨rfl, hb1⟩; obtain ⟨hc1, hf1, hz1⟩ := bcell hb1; (try simp only [World.size_alloc, World.size_setCell, World.size_drew] at hc1 hf1 hz1)) | (go_at_call 25; (with_reducible refine (fany_c _).mono ?_); rintro e w1 ⟨rfl, hb1⟩; obtain ⟨hc1, hf1, hz1⟩ := bcell hb1; (try simp only [World.size_alloc, World.size_setCell, World.size_drew] at hc1 hf1 hz1)))
  go_wp2_with fail
  refine (do_c' _ _ _ _ _ _).mono ?_
  rintro e wT ⟨rfl, hbwT⟩
  obtain ⟨hcwT, hfwT, hzwT⟩ := bcell hbwT
  (try simp only [World.size_alloc, World.size_setCell, World.size_drew] at hcwT hfwT hzwT)
  go_wp2_with (first | (go_at_call 25; (with_reducible refine (fany_c _).mono ?_); rintro e w1 ⟨rfl, hb1⟩; obtain ⟨hc1, hf1, hz1⟩ := bcell hb1; (try simp only [World.size_alloc, World.size_setCell, World.size_drew] at hc1 hf1 hz1)))
  refine wp_region_class_tail (MkC x y Fa.zero Fa.any.t w wT) 8 (by kernel_rfl) (by kernel_rfl) ?_ ?_
  · refine ⟨?_, ?_, ?_, ?_, ?_, ?_, ?_, ?_, ?_, ?_, ?_, ?_, ?_, ?_, ?_, (by repeat' (first | (with_reducible exact Below.refl _ _) | (with_reducible assumption) | (with_reducible refine Below.alloc ?_ ?_ _) | (with_reducible refine Below.setCell ?_ ?_ _) | (with_reducible refine Below.drew ?_) | (with_reducible refine below_dn ?_ _) | (with_reducible refine Below.trans ?_ (Below.mono (by assumption) ?_)) | go_size))⟩
    all_goals first | (intro i; simp [*, go_sem, ↓IntWalk.iteOmega]; done) | (simp [*, go_sem, ↓IntWalk.iteOmega]; done)
  clear hbwT hcwT hfwT hzwT
  intro hN
  (try simp only [List.append])
  simp only [List.take_succ_cons, List.take_zero, List.drop_succ_cons, List.drop_zero]
  repeat (first
    | go_big_quiet_skip
    | (go_big_quiet_want
       first
         | (refine quiet_load_Tn rfl rfl (fun w' hC => by obtain ⟨k0, k1, k2, k3, k4, k5, k6, k7, k8, k9, k10, k11, k12, k13, k14, k15⟩ := hC; first | exact ⟨k0, k1⟩ | exact ⟨k1, k2⟩ | exact ⟨k2, k3⟩ | exact ⟨k3, k4⟩ | exact ⟨k4, k5⟩ | exact ⟨k5, k6⟩ | exact ⟨k6, k7⟩ | exact ⟨k7, k8⟩ | exact ⟨k8, k9⟩ | exact ⟨k9, k10⟩ | exact ⟨k10, k11⟩ | exact ⟨k11, k12⟩ | exact ⟨k12, k13⟩) ?_
            simp only [Act.put, List.setIfInBounds_toArray, List.set_cons_succ, List.set_cons_zero]
            go_big_quiet_on)
         | (refine quiet_load_Sp rfl rfl (fun w' hC => by obtain ⟨k0, k1, k2, k3, k4, k5, k6, k7, k8, k9, k10, k11, k12, k13, k14, k15⟩ := hC; first | exact ⟨k0, k1⟩ | exact ⟨k1, k2⟩ | exact ⟨k2, k3⟩ | exact ⟨k3, k4⟩ | exact ⟨k4, k5⟩ | exact ⟨k5, k6⟩ | exact ⟨k6, k7⟩ | exact ⟨k7, k8⟩ | exact ⟨k8, k9⟩ | exact ⟨k9, k10⟩ | exact ⟨k10, k11⟩ | exact ⟨k11, k12⟩ | exact ⟨k12, k13⟩) ?_
            simp only [Act.put, List.setIfInBounds_toArray, List.set_cons_succ, List.set_cons_zero]
            go_big_quiet_on)
         | (refine quiet_load_Fa rfl rfl (fun w' hC => by obtain ⟨k0, k1, k2, k3, k4, k5, k6, k7, k8, k9, k10, k11, k12, k13, k14, k15⟩ := hC; first | exact ⟨k0, k1, k2, k3⟩ | exact ⟨k1, k2, k3, k4⟩ | exact ⟨k2, k3, k4, k5⟩ | exact ⟨k3, k4, k5, k6⟩ | exact ⟨k4, k5, k6, k7⟩ | exact ⟨k5, k6, k7, k8⟩ | exact ⟨k6, k7, k8, k9⟩ | exact ⟨k7, k8, k9, k10⟩ | exact ⟨k8, k9, k10, k11⟩ | exact ⟨k9, k10, k11, k12⟩ | exact ⟨k10, k11, k12, k13⟩) ?_
            simp only [Act.put, List.setIfInBounds_toArray, List.set_cons_succ, List.set_cons_zero]
            go_big_quiet_on)
         | (refine quiet_load_W rfl rfl (fun w' hC => by obtain ⟨k0, k1, k2, k3, k4, k5, k6, k7, k8, k9, k10, k11, k12, k13, k14, k15⟩ := hC; first | exact k0 | exact k1 | exact k2 | exact k3 | exact k4 | exact k5 | exact k6 | exact k7 | exact k8 | exact k9 | exact k10 | exact k11 | exact k12 | exact k13) ?_
            simp only [Act.put, List.setIfInBounds_toArray, List.set_cons_succ, List.set_cons_zero]
            go_big_quiet_on)
         | (go_big_quiet_op
            first
              | go_big_quiet_on
              | (apply Exists.intro
                 refine ⟨fun w' hC => ?_, ?_⟩
                 · (first | (go_at_call 87; (with_reducible refine (sdo_c' _ _ _ _ _ _).mono ?_); rintro e w1 ⟨rfl, hb1⟩) | (go_at_call 67; (with_reducible refine (fsettled_c' _ _ _ _ _).mono ?_); rintro e w1 ⟨rfl, hb1⟩))
                   (try simp only [Tn.eta, Sp.eta, Fa.eta])
                   exact ⟨rfl, by first | exact hC | exact MkC_keep _ _ hC hb1⟩
                 go_big_quiet_on))))
  refine wpQuiet_nil ?_
  intro w9 hC
  obtain ⟨k0, k1, k2, k3, k4, k5, k6, k7, k8, k9, k10, k11, k12, k13, k14, k15⟩ := hC
  have z0 := cell_lt k0
  have z4 := cell_lt k4
  have z8 := cell_lt k8
  have z12 := cell_lt k12
  go_wp2
  refine bodyPost_ret ?_ rfl ⟨rfl, (by repeat' (first | (with_reducible exact Below.refl _ _) | (with_reducible assumption) | (with_reducible refine Below.alloc ?_ ?_ _) | (with_reducible refine Below.setCell ?_ ?_ _) | (with_reducible refine Below.drew ?_) | (with_reducible refine below_dn ?_ _) | (with_reducible refine Below.trans ?_ (Below.mono (by assumption) ?_)) | go_size))⟩
  simp only [results, Try.results42]; simp [*, go_sem, ↓IntWalk.iteOmega]; try (first | rfl | exact ⟨rfl, rfl⟩)

set_option maxHeartbeats 1000000 in
theorem mk_div0_c1 (wd : Bool) (x y : Fa) (t : Tn) (q : BitVec 64) (hx : Fa.known x = none) (hy : Fa.known y = some q) (hq : (q == 0#64) = false) (hd : Tn.do_ 48 x.t (y).t = some t) (w : World) : Calls Try.prog 42 #[.int .u8 48, .bool wd, .int .i16 0, .agg #[.int .u64 (N x.t.v), .int .u64 (N x.t.m), .int .u64 (N x.s.lo), .int .u64 (N x.s.hi)], .agg #[.int .u64 (N y.t.v), .int .u64 (N y.t.m), .int .u64 (N y.s.lo), .int .u64 (N y.s.hi)]] w fun e w' => e = .returned (.agg #[.int .u64 (N (Fa.makes 48 wd 0 x y).t.v), .int .u64 (N (Fa.makes 48 wd 0 x y).t.m), .int .u64 (N (Fa.makes 48 wd 0 x y).s.lo), .int .u64 (N (Fa.makes 48 wd 0 x y).s.hi)]) ∧ Below w.heap.size w w' := by
  rw [Fa.mk_div0 (.inl hx) (by rw [hy]; simpa using hq), Fa.plain_some hd]
  go_enter Try.func42, Try.ntmps42
  go_wp2_with (first | (go_at_call 20; (with_reducible refine (fknown_c' _ _ _ _ _).mono ?_); rintro e w1 ⟨rfl, hb1⟩; obtain ⟨hc1, hf1, hz1⟩ := bcell hb1; (try simp only [World.size_alloc, World.size_setCell, World.size_drew] at hc1 hf1 hz1)) | (go_at_call 85; (with_reducible refine (found_48 _).mono ?_); rintro e w1 ⟨rfl, rfl⟩) | (go_at_call 41; (with_reducible refine (ado_c _ _ _ _ _ _).mono ?_); rintro e w1 ⟨rfl, rfl⟩) | (go_at_call 17; (with_reducible refine (fof_c' _ _).mono ?_); rintro e w1 ⟨rfl, hb1⟩; obtain ⟨hc1, hf1, hz1⟩ := bcell hb1; (try simp only [World.size_alloc, World.size_setCell, World.size_drew] at hc1 hf1 hz1)) | (go_at_call 25; (with_reducible refine (fany_c _).mono ?_); rintro e w1 ⟨rfl, hb1⟩; obtain ⟨hc1, hf1, hz1⟩ := bcell hb1; (try simp only [World.size_alloc, World.size_setCell, World.size_drew] at hc1 hf1 hz1)))
  go_wp2_with fail
  refine (do_c' _ _ _ _ _ _).mono ?_
  rintro e wT ⟨rfl, hbwT⟩
  obtain ⟨hcwT, hfwT, hzwT⟩ := bcell hbwT
  (try simp only [World.size_alloc, World.size_setCell, World.size_drew] at hcwT hfwT hzwT)
  go_wp2_with (first | (go_at_call 25; (with_reducible refine (fany_c _).mono ?_); rintro e w1 ⟨rfl, hb1⟩; obtain ⟨hc1, hf1, hz1⟩ := bcell hb1; (try simp only [World.size_alloc, World.size_setCell, World.size_drew] at hc1 hf1 hz1)))
  refine wp_region_class_tail (MkC x y Fa.zero t w wT) 8 (by kernel_rfl) (by kernel_rfl) ?_ ?_
  · refine ⟨?_, ?_, ?_, ?_, ?_, ?_, ?_, ?_, ?_, ?_, ?_, ?_, ?_, ?_, ?_, (by repeat' (first | (with_reducible exact Below.refl _ _) | (with_reducible assumption) | (with_reducible refine Below.alloc ?_ ?_ _) | (with_reducible refine Below.setCell ?_ ?_ _) | (with_reducible refine Below.drew ?_) | (with_reducible refine below_dn ?_ _) | (with_reducible refine Below.trans ?_ (Below.mono (by assumption) ?_)) | go_size))⟩
    all_goals first | (intro i; simp [*, go_sem, ↓IntWalk.iteOmega]; done) | (simp [*, go_sem, ↓IntWalk.iteOmega]; done)
  clear hbwT hcwT hfwT hzwT
  intro hN
  (try simp only [List.append])
  simp only [List.take_succ_cons, List.take_zero, List.drop_succ_cons, List.drop_zero]
  repeat (first
    | go_big_quiet_skip
    | (go_big_quiet_want
       first
         | (refine quiet_load_Tn rfl rfl (fun w' hC => by obtain ⟨k0, k1, k2, k3, k4, k5, k6, k7, k8, k9, k10, k11, k12, k13, k14, k15⟩ := hC; first | exact ⟨k0, k1⟩ | exact ⟨k1, k2⟩ | exact ⟨k2, k3⟩ | exact ⟨k3, k4⟩ | exact ⟨k4, k5⟩ | exact ⟨k5, k6⟩ | exact ⟨k6, k7⟩ | exact ⟨k7, k8⟩ | exact ⟨k8, k9⟩ | exact ⟨k9, k10⟩ | exact ⟨k10, k11⟩ | exact ⟨k11, k12⟩ | exact ⟨k12, k13⟩) ?_
            simp only [Act.put, List.setIfInBounds_toArray, List.set_cons_succ, List.set_cons_zero]
            go_big_quiet_on)
         | (refine quiet_load_Sp rfl rfl (fun w' hC => by obtain ⟨k0, k1, k2, k3, k4, k5, k6, k7, k8, k9, k10, k11, k12, k13, k14, k15⟩ := hC; first | exact ⟨k0, k1⟩ | exact ⟨k1, k2⟩ | exact ⟨k2, k3⟩ | exact ⟨k3, k4⟩ | exact ⟨k4, k5⟩ | exact ⟨k5, k6⟩ | exact ⟨k6, k7⟩ | exact ⟨k7, k8⟩ | exact ⟨k8, k9⟩ | exact ⟨k9, k10⟩ | exact ⟨k10, k11⟩ | exact ⟨k11, k12⟩ | exact ⟨k12, k13⟩) ?_
            simp only [Act.put, List.setIfInBounds_toArray, List.set_cons_succ, List.set_cons_zero]
            go_big_quiet_on)
         | (refine quiet_load_Fa rfl rfl (fun w' hC => by obtain ⟨k0, k1, k2, k3, k4, k5, k6, k7, k8, k9, k10, k11, k12, k13, k14, k15⟩ := hC; first | exact ⟨k0, k1, k2, k3⟩ | exact ⟨k1, k2, k3, k4⟩ | exact ⟨k2, k3, k4, k5⟩ | exact ⟨k3, k4, k5, k6⟩ | exact ⟨k4, k5, k6, k7⟩ | exact ⟨k5, k6, k7, k8⟩ | exact ⟨k6, k7, k8, k9⟩ | exact ⟨k7, k8, k9, k10⟩ | exact ⟨k8, k9, k10, k11⟩ | exact ⟨k9, k10, k11, k12⟩ | exact ⟨k10, k11, k12, k13⟩) ?_
            simp only [Act.put, List.setIfInBounds_toArray, List.set_cons_succ, List.set_cons_zero]
            go_big_quiet_on)
         | (refine quiet_load_W rfl rfl (fun w' hC => by obtain ⟨k0, k1, k2, k3, k4, k5, k6, k7, k8, k9, k10, k11, k12, k13, k14, k15⟩ := hC; first | exact k0 | exact k1 | exact k2 | exact k3 | exact k4 | exact k5 | exact k6 | exact k7 | exact k8 | exact k9 | exact k10 | exact k11 | exact k12 | exact k13) ?_
            simp only [Act.put, List.setIfInBounds_toArray, List.set_cons_succ, List.set_cons_zero]
            go_big_quiet_on)
         | (go_big_quiet_op
            first
              | go_big_quiet_on
              | (apply Exists.intro
                 refine ⟨fun w' hC => ?_, ?_⟩
                 · (first | (go_at_call 87; (with_reducible refine (sdo_c' _ _ _ _ _ _).mono ?_); rintro e w1 ⟨rfl, hb1⟩) | (go_at_call 67; (with_reducible refine (fsettled_c' _ _ _ _ _).mono ?_); rintro e w1 ⟨rfl, hb1⟩))
                   (try simp only [Tn.eta, Sp.eta, Fa.eta])
                   exact ⟨rfl, by first | exact hC | exact MkC_keep _ _ hC hb1⟩
                 go_big_quiet_on))))
  refine wpQuiet_nil ?_
  intro w9 hC
  obtain ⟨k0, k1, k2, k3, k4, k5, k6, k7, k8, k9, k10, k11, k12, k13, k14, k15⟩ := hC
  have z0 := cell_lt k0
  have z4 := cell_lt k4
  have z8 := cell_lt k8
  have z12 := cell_lt k12
  go_wp2
  refine bodyPost_ret ?_ rfl ⟨rfl, (by repeat' (first | (with_reducible exact Below.refl _ _) | (with_reducible assumption) | (with_reducible refine Below.alloc ?_ ?_ _) | (with_reducible refine Below.setCell ?_ ?_ _) | (with_reducible refine Below.drew ?_) | (with_reducible refine below_dn ?_ _) | (with_reducible refine Below.trans ?_ (Below.mono (by assumption) ?_)) | go_size))⟩
  simp only [results, Try.results42]; simp [*, go_sem, ↓IntWalk.iteOmega]; try (first | rfl | exact ⟨rfl, rfl⟩)

theorem mk_div1 (wd : Bool) (x y : Fa) (hx : Fa.known x = none) (hy : Fa.known y = some 0#64) (w : World) : Calls Try.prog 42 #[.int .u8 48, .bool wd, .int .i16 0, .agg #[.int .u64 (N x.t.v), .int .u64 (N x.t.m), .int .u64 (N x.s.lo), .int .u64 (N x.s.hi)], .agg #[.int .u64 (N y.t.v), .int .u64 (N y.t.m), .int .u64 (N y.s.lo), .int .u64 (N y.s.hi)]] w fun e w' => e = .returned (.agg #[.int .u64 (N (Fa.makes 48 wd 0 x y).t.v), .int .u64 (N (Fa.makes 48 wd 0 x y).t.m), .int .u64 (N (Fa.makes 48 wd 0 x y).s.lo), .int .u64 (N (Fa.makes 48 wd 0 x y).s.hi)]) ∧ Below w.heap.size w w' := by
  rw [Fa.mk_div1 (.inl hx) hy]
  go_enter Try.func42, Try.ntmps42
  go_wp2_with (first | (go_at_call 20; (with_reducible refine (fknown_c' _ _ _ _ _).mono ?_); rintro e w1 ⟨rfl, hb1⟩; obtain ⟨hc1, hf1, hz1⟩ := bcell hb1; (try simp only [World.size_alloc, World.size_setCell, World.size_drew] at hc1 hf1 hz1)) | (go_at_call 85; (with_reducible refine (found_48 _).mono ?_); rintro e w1 ⟨rfl, rfl⟩) | (go_at_call 41; (with_reducible refine (ado_c _ _ _ _ _ _).mono ?_); rintro e w1 ⟨rfl, rfl⟩) | (go_at_call 17; (with_reducible refine (fof_c' _ _).mono ?_); rintro e w1 ⟨rfl, hb1⟩; obtain ⟨hc1, hf1, hz1⟩ := bcell hb1; (try simp only [World.size_alloc, World.size_setCell, World.size_drew] at hc1 hf1 hz1)) | (go_at_call 25; (with_reducible refine (fany_c _).mono ?_); rintro e w1 ⟨rfl, hb1⟩; obtain ⟨hc1, hf1, hz1⟩ := bcell hb1; (try simp only [World.size_alloc, World.size_setCell, World.size_drew] at hc1 hf1 hz1)))
  refine bodyPost_ret ?_ rfl ⟨rfl, (by repeat' (first | (with_reducible exact Below.refl _ _) | (with_reducible assumption) | (with_reducible refine Below.alloc ?_ ?_ _) | (with_reducible refine Below.setCell ?_ ?_ _) | (with_reducible refine Below.drew ?_) | (with_reducible refine below_dn ?_ _) | (with_reducible refine Below.trans ?_ (Below.mono (by assumption) ?_)) | go_size))⟩
  simp only [results, Try.results42]; simp [*, go_sem, ↓IntWalk.iteOmega]; try (first | rfl | exact ⟨rfl, rfl⟩)

set_option maxHeartbeats 1000000 in
theorem mk_mod0_a0 (wd : Bool) (x y : Fa) (t : Tn) (hx : Fa.known x = none) (hy : Fa.known y = none) (hd : Tn.do_ 144 x.t (y).t = none) (w : World) : Calls Try.prog 42 #[.int .u8 144, .bool wd, .int .i16 0, .agg #[.int .u64 (N x.t.v), .int .u64 (N x.t.m), .int .u64 (N x.s.lo), .int .u64 (N x.s.hi)], .agg #[.int .u64 (N y.t.v), .int .u64 (N y.t.m), .int .u64 (N y.s.lo), .int .u64 (N y.s.hi)]] w fun e w' => e = .returned (.agg #[.int .u64 (N (Fa.makes 144 wd 0 x y).t.v), .int .u64 (N (Fa.makes 144 wd 0 x y).t.m), .int .u64 (N (Fa.makes 144 wd 0 x y).s.lo), .int .u64 (N (Fa.makes 144 wd 0 x y).s.hi)]) ∧ Below w.heap.size w w' := by
  rw [Fa.mk_mod0 (.inl hx) (by rw [hy]; simp), Fa.plain_none hd]
  go_enter Try.func42, Try.ntmps42
  go_wp2_with (first | (go_at_call 20; (with_reducible refine (fknown_c' _ _ _ _ _).mono ?_); rintro e w1 ⟨rfl, hb1⟩; obtain ⟨hc1, hf1, hz1⟩ := bcell hb1; (try simp only [World.size_alloc, World.size_setCell, World.size_drew] at hc1 hf1 hz1)) | (go_at_call 85; (with_reducible refine (found_144 _).mono ?_); rintro e w1 ⟨rfl, rfl⟩) | (go_at_call 41; (with_reducible refine (ado_c _ _ _ _ _ _).mono ?_); rintro e w1 ⟨rfl, rfl⟩) | (go_at_call 17; (with_reducible refine (fof_c' _ _).mono ?_); rintro e w1 ⟨rfl, hb1⟩; obtain ⟨hc1, hf1, hz1⟩ := bcell hb1; (try simp only [World.size_alloc, World.size_setCell, World.size_drew] at hc1 hf1 hz1)) | (go_at_call 25; (with_reducible refine (fany_c _).mono ?_); rintro e w1 ⟨rfl, hb1⟩; obtain ⟨hc1, hf1, hz1⟩ := bcell hb1; (try simp only [World.size_alloc, World.size_setCell, World.size_drew] at hc1 hf1 hz1)))
  go_wp2_with fail
  refine (do_c' _ _ _ _ _ _).mono ?_
  rintro e wT ⟨rfl, hbwT⟩
  obtain ⟨hcwT, hfwT, hzwT⟩ := bcell hbwT
  (try simp only [World.size_alloc, World.size_setCell, World.size_drew] at hcwT hfwT hzwT)
  go_wp2_with (first | (go_at_call 25; (with_reducible refine (fany_c _).mono ?_); rintro e w1 ⟨rfl, hb1⟩; obtain ⟨hc1, hf1, hz1⟩ := bcell hb1; (try simp only [World.size_alloc, World.size_setCell, World.size_drew] at hc1 hf1 hz1)))
  refine wp_region_class_tail (MkC x y Fa.zero Fa.any.t w wT) 8 (by kernel_rfl) (by kernel_rfl) ?_ ?_
  · refine ⟨?_, ?_, ?_, ?_, ?_, ?_, ?_, ?_, ?_, ?_, ?_, ?_, ?_, ?_, ?_, (by repeat' (first | (with_reducible exact Below.refl _ _) | (with_reducible assumption) | (with_reducible refine Below.alloc ?_ ?_ _) | (with_reducible refine Below.setCell ?_ ?_ _) | (with_reducible refine Below.drew ?_) | (with_reducible refine below_dn ?_ _) | (with_reducible refine Below.trans ?_ (Below.mono (by assumption) ?_)) | go_size))⟩
    all_goals first | (intro i; simp [*, go_sem, ↓IntWalk.iteOmega]; done) | (simp [*, go_sem, ↓IntWalk.iteOmega]; done)
  clear hbwT hcwT hfwT hzwT
  intro hN
  (try simp only [List.append])
  simp only [List.take_succ_cons, List.take_zero, List.drop_succ_cons, List.drop_zero]
  repeat (first
    | go_big_quiet_skip
    | (go_big_quiet_want
       first
         | (refine quiet_load_Tn rfl rfl (fun w' hC => by obtain ⟨k0, k1, k2, k3, k4, k5, k6, k7, k8, k9, k10, k11, k12, k13, k14, k15⟩ := hC; first | exact ⟨k0, k1⟩ | exact ⟨k1, k2⟩ | exact ⟨k2, k3⟩ | exact ⟨k3, k4⟩ | exact ⟨k4, k5⟩ | exact ⟨k5, k6⟩ | exact ⟨k6, k7⟩ | exact ⟨k7, k8⟩ | exact ⟨k8, k9⟩ | exact ⟨k9, k10⟩ | exact ⟨k10, k11⟩ | exact ⟨k11, k12⟩ | exact ⟨k12, k13⟩) ?_
            simp only [Act.put, List.setIfInBounds_toArray, List.set_cons_succ, List.set_cons_zero]
            go_big_quiet_on)
         | (refine quiet_load_Sp rfl rfl (fun w' hC => by obtain ⟨k0, k1, k2, k3, k4, k5, k6, k7, k8, k9, k10, k11, k12, k13, k14, k15⟩ := hC; first | exact ⟨k0, k1⟩ | exact ⟨k1, k2⟩ | exact ⟨k2, k3⟩ | exact ⟨k3, k4⟩ | exact ⟨k4, k5⟩ | exact ⟨k5, k6⟩ | exact ⟨k6, k7⟩ | exact ⟨k7, k8⟩ | exact ⟨k8, k9⟩ | exact ⟨k9, k10⟩ | exact ⟨k10, k11⟩ | exact ⟨k11, k12⟩ | exact ⟨k12, k13⟩) ?_
            simp only [Act.put, List.setIfInBounds_toArray, List.set_cons_succ, List.set_cons_zero]
            go_big_quiet_on)
         | (refine quiet_load_Fa rfl rfl (fun w' hC => by obtain ⟨k0, k1, k2, k3, k4, k5, k6, k7, k8, k9, k10, k11, k12, k13, k14, k15⟩ := hC; first | exact ⟨k0, k1, k2, k3⟩ | exact ⟨k1, k2, k3, k4⟩ | exact ⟨k2, k3, k4, k5⟩ | exact ⟨k3, k4, k5, k6⟩ | exact ⟨k4, k5, k6, k7⟩ | exact ⟨k5, k6, k7, k8⟩ | exact ⟨k6, k7, k8, k9⟩ | exact ⟨k7, k8, k9, k10⟩ | exact ⟨k8, k9, k10, k11⟩ | exact ⟨k9, k10, k11, k12⟩ | exact ⟨k10, k11, k12, k13⟩) ?_
            simp only [Act.put, List.setIfInBounds_toArray, List.set_cons_succ, List.set_cons_zero]
            go_big_quiet_on)
         | (refine quiet_load_W rfl rfl (fun w' hC => by obtain ⟨k0, k1, k2, k3, k4, k5, k6, k7, k8, k9, k10, k11, k12, k13, k14, k15⟩ := hC; first | exact k0 | exact k1 | exact k2 | exact k3 | exact k4 | exact k5 | exact k6 | exact k7 | exact k8 | exact k9 | exact k10 | exact k11 | exact k12 | exact k13) ?_
            simp only [Act.put, List.setIfInBounds_toArray, List.set_cons_succ, List.set_cons_zero]
            go_big_quiet_on)
         | (go_big_quiet_op
            first
              | go_big_quiet_on
              | (apply Exists.intro
                 refine ⟨fun w' hC => ?_, ?_⟩
                 · (first | (go_at_call 87; (with_reducible refine (sdo_c' _ _ _ _ _ _).mono ?_); rintro e w1 ⟨rfl, hb1⟩) | (go_at_call 67; (with_reducible refine (fsettled_c' _ _ _ _ _).mono ?_); rintro e w1 ⟨rfl, hb1⟩))
                   (try simp only [Tn.eta, Sp.eta, Fa.eta])
                   exact ⟨rfl, by first | exact hC | exact MkC_keep _ _ hC hb1⟩
                 go_big_quiet_on))))
  refine wpQuiet_nil ?_
  intro w9 hC
  obtain ⟨k0, k1, k2, k3, k4, k5, k6, k7, k8, k9, k10, k11, k12, k13, k14, k15⟩ := hC
  have z0 := cell_lt k0
  have z4 := cell_lt k4
  have z8 := cell_lt k8
  have z12 := cell_lt k12
  go_wp2
  refine bodyPost_ret ?_ rfl ⟨rfl, (by repeat' (first | (with_reducible exact Below.refl _ _) | (with_reducible assumption) | (with_reducible refine Below.alloc ?_ ?_ _) | (with_reducible refine Below.setCell ?_ ?_ _) | (with_reducible refine Below.drew ?_) | (with_reducible refine below_dn ?_ _) | (with_reducible refine Below.trans ?_ (Below.mono (by assumption) ?_)) | go_size))⟩
  simp only [results, Try.results42]; simp [*, go_sem, ↓IntWalk.iteOmega]; try (first | rfl | exact ⟨rfl, rfl⟩)

set_option maxHeartbeats 1000000 in
theorem mk_mod0_a1 (wd : Bool) (x y : Fa) (t : Tn) (hx : Fa.known x = none) (hy : Fa.known y = none) (hd : Tn.do_ 144 x.t (y).t = some t) (w : World) : Calls Try.prog 42 #[.int .u8 144, .bool wd, .int .i16 0, .agg #[.int .u64 (N x.t.v), .int .u64 (N x.t.m), .int .u64 (N x.s.lo), .int .u64 (N x.s.hi)], .agg #[.int .u64 (N y.t.v), .int .u64 (N y.t.m), .int .u64 (N y.s.lo), .int .u64 (N y.s.hi)]] w fun e w' => e = .returned (.agg #[.int .u64 (N (Fa.makes 144 wd 0 x y).t.v), .int .u64 (N (Fa.makes 144 wd 0 x y).t.m), .int .u64 (N (Fa.makes 144 wd 0 x y).s.lo), .int .u64 (N (Fa.makes 144 wd 0 x y).s.hi)]) ∧ Below w.heap.size w w' := by
  rw [Fa.mk_mod0 (.inl hx) (by rw [hy]; simp), Fa.plain_some hd]
  go_enter Try.func42, Try.ntmps42
  go_wp2_with (first | (go_at_call 20; (with_reducible refine (fknown_c' _ _ _ _ _).mono ?_); rintro e w1 ⟨rfl, hb1⟩; obtain ⟨hc1, hf1, hz1⟩ := bcell hb1; (try simp only [World.size_alloc, World.size_setCell, World.size_drew] at hc1 hf1 hz1)) | (go_at_call 85; (with_reducible refine (found_144 _).mono ?_); rintro e w1 ⟨rfl, rfl⟩) | (go_at_call 41; (with_reducible refine (ado_c _ _ _ _ _ _).mono ?_); rintro e w1 ⟨rfl, rfl⟩) | (go_at_call 17; (with_reducible refine (fof_c' _ _).mono ?_); rintro e w1 ⟨rfl, hb1⟩; obtain ⟨hc1, hf1, hz1⟩ := bcell hb1; (try simp only [World.size_alloc, World.size_setCell, World.size_drew] at hc1 hf1 hz1)) | (go_at_call 25; (with_reducible refine (fany_c _).mono ?_); rintro e w1 ⟨rfl, hb1⟩; obtain ⟨hc1, hf1, hz1⟩ := bcell hb1; (try simp only [World.size_alloc, World.size_setCell, World.size_drew] at hc1 hf1 hz1)))
  go_wp2_with fail
  refine (do_c' _ _ _ _ _ _).mono ?_
  rintro e wT ⟨rfl, hbwT⟩
  obtain ⟨hcwT, hfwT, hzwT⟩ := bcell hbwT
  (try simp only [World.size_alloc, World.size_setCell, World.size_drew] at hcwT hfwT hzwT)
  go_wp2_with (first | (go_at_call 25; (with_reducible refine (fany_c _).mono ?_); rintro e w1 ⟨rfl, hb1⟩; obtain ⟨hc1, hf1, hz1⟩ := bcell hb1; (try simp only [World.size_alloc, World.size_setCell, World.size_drew] at hc1 hf1 hz1)))
  refine wp_region_class_tail (MkC x y Fa.zero t w wT) 8 (by kernel_rfl) (by kernel_rfl) ?_ ?_
  · refine ⟨?_, ?_, ?_, ?_, ?_, ?_, ?_, ?_, ?_, ?_, ?_, ?_, ?_, ?_, ?_, (by repeat' (first | (with_reducible exact Below.refl _ _) | (with_reducible assumption) | (with_reducible refine Below.alloc ?_ ?_ _) | (with_reducible refine Below.setCell ?_ ?_ _) | (with_reducible refine Below.drew ?_) | (with_reducible refine below_dn ?_ _) | (with_reducible refine Below.trans ?_ (Below.mono (by assumption) ?_)) | go_size))⟩
    all_goals first | (intro i; simp [*, go_sem, ↓IntWalk.iteOmega]; done) | (simp [*, go_sem, ↓IntWalk.iteOmega]; done)
  clear hbwT hcwT hfwT hzwT
  intro hN
  (try simp only [List.append])
  simp only [List.take_succ_cons, List.take_zero, List.drop_succ_cons, List.drop_zero]
  repeat (first
    | go_big_quiet_skip
    | (go_big_quiet_want
       first
         | (refine quiet_load_Tn rfl rfl (fun w' hC => by obtain ⟨k0, k1, k2, k3, k4, k5, k6, k7, k8, k9, k10, k11, k12, k13, k14, k15⟩ := hC; first | exact ⟨k0, k1⟩ | exact ⟨k1, k2⟩ | exact ⟨k2, k3⟩ | exact ⟨k3, k4⟩ | exact ⟨k4, k5⟩ | exact ⟨k5, k6⟩ | exact ⟨k6, k7⟩ | exact ⟨k7, k8⟩ | exact ⟨k8, k9⟩ | exact ⟨k9, k10⟩ | exact ⟨k10, k11⟩ | exact ⟨k11, k12⟩ | exact ⟨k12, k13⟩) ?_
            simp only [Act.put, List.setIfInBounds_toArray, List.set_cons_succ, List.set_cons_zero]
            go_big_quiet_on)
         | (refine quiet_load_Sp rfl rfl (fun w' hC => by obtain ⟨k0, k1, k2, k3, k4, k5, k6, k7, k8, k9, k10, k11, k12, k13, k14, k15⟩ := hC; first | exact ⟨k0, k1⟩ | exact ⟨k1, k2⟩ | exact ⟨k2, k3⟩ | exact ⟨k3, k4⟩ | exact ⟨k4, k5⟩ | exact ⟨k5, k6⟩ | exact ⟨k6, k7⟩ | exact ⟨k7, k8⟩ | exact ⟨k8, k9⟩ | exact ⟨k9, k10⟩ | exact ⟨k10, k11⟩ | exact ⟨k11, k12⟩ | exact ⟨k12, k13⟩) ?_
            simp only [Act.put, List.setIfInBounds_toArray, List.set_cons_succ, List.set_cons_zero]
            go_big_quiet_on)
         | (refine quiet_load_Fa rfl rfl (fun w' hC => by obtain ⟨k0, k1, k2, k3, k4, k5, k6, k7, k8, k9, k10, k11, k12, k13, k14, k15⟩ := hC; first | exact ⟨k0, k1, k2, k3⟩ | exact ⟨k1, k2, k3, k4⟩ | exact ⟨k2, k3, k4, k5⟩ | exact ⟨k3, k4, k5, k6⟩ | exact ⟨k4, k5, k6, k7⟩ | exact ⟨k5, k6, k7, k8⟩ | exact ⟨k6, k7, k8, k9⟩ | exact ⟨k7, k8, k9, k10⟩ | exact ⟨k8, k9, k10, k11⟩ | exact ⟨k9, k10, k11, k12⟩ | exact ⟨k10, k11, k12, k13⟩) ?_
            simp only [Act.put, List.setIfInBounds_toArray, List.set_cons_succ, List.set_cons_zero]
            go_big_quiet_on)
         | (refine quiet_load_W rfl rfl (fun w' hC => by obtain ⟨k0, k1, k2, k3, k4, k5, k6, k7, k8, k9, k10, k11, k12, k13, k14, k15⟩ := hC; first | exact k0 | exact k1 | exact k2 | exact k3 | exact k4 | exact k5 | exact k6 | exact k7 | exact k8 | exact k9 | exact k10 | exact k11 | exact k12 | exact k13) ?_
            simp only [Act.put, List.setIfInBounds_toArray, List.set_cons_succ, List.set_cons_zero]
            go_big_quiet_on)
         | (go_big_quiet_op
            first
              | go_big_quiet_on
              | (apply Exists.intro
                 refine ⟨fun w' hC => ?_, ?_⟩
                 · (first | (go_at_call 87; (with_reducible refine (sdo_c' _ _ _ _ _ _).mono ?_); rintro e w1 ⟨rfl, hb1⟩) | (go_at_call 67; (with_reducible refine (fsettled_c' _ _ _ _ _).mono ?_); rintro e w1 ⟨rfl, hb1⟩))
                   (try simp only [Tn.eta, Sp.eta, Fa.eta])
                   exact ⟨rfl, by first | exact hC | exact MkC_keep _ _ hC hb1⟩
                 go_big_quiet_on))))
  refine wpQuiet_nil ?_
  intro w9 hC
  obtain ⟨k0, k1, k2, k3, k4, k5, k6, k7, k8, k9, k10, k11, k12, k13, k14, k15⟩ := hC
  have z0 := cell_lt k0
  have z4 := cell_lt k4
  have z8 := cell_lt k8
  have z12 := cell_lt k12
  go_wp2
  refine bodyPost_ret ?_ rfl ⟨rfl, (by repeat' (first | (with_reducible exact Below.refl _ _) | (with_reducible assumption) | (with_reducible refine Below.alloc ?_ ?_ _) | (with_reducible refine Below.setCell ?_ ?_ _) | (with_reducible refine Below.drew ?_) | (with_reducible refine below_dn ?_ _) | (with_reducible refine Below.trans ?_ (Below.mono (by assumption) ?_)) | go_size))⟩
  simp only [results, Try.results42]; simp [*, go_sem, ↓IntWalk.iteOmega]; try (first | rfl | exact ⟨rfl, rfl⟩)

set_option maxHeartbeats 1000000 in
theorem mk_mod0_b0 (wd : Bool) (x y : Fa) (t : Tn) (p : BitVec 64) (hx : Fa.known x = some p) (hy : Fa.known y = none) (hd : Tn.do_ 144 x.t (y).t = none) (w : World) : Calls Try.prog 42 #[.int .u8 144, .bool wd, .int .i16 0, .agg #[.int .u64 (N x.t.v), .int .u64 (N x.t.m), .int .u64 (N x.s.lo), .int .u64 (N x.s.hi)], .agg #[.int .u64 (N y.t.v), .int .u64 (N y.t.m), .int .u64 (N y.s.lo), .int .u64 (N y.s.hi)]] w fun e w' => e = .returned (.agg #[.int .u64 (N (Fa.makes 144 wd 0 x y).t.v), .int .u64 (N (Fa.makes 144 wd 0 x y).t.m), .int .u64 (N (Fa.makes 144 wd 0 x y).s.lo), .int .u64 (N (Fa.makes 144 wd 0 x y).s.hi)]) ∧ Below w.heap.size w w' := by
  rw [Fa.mk_mod0 (.inr hy) (by rw [hy]; simp), Fa.plain_none hd]
  go_enter Try.func42, Try.ntmps42
  go_wp2_with (first | (go_at_call 20; (with_reducible refine (fknown_c' _ _ _ _ _).mono ?_); rintro e w1 ⟨rfl, hb1⟩; obtain ⟨hc1, hf1, hz1⟩ := bcell hb1; (try simp only [World.size_alloc, World.size_setCell, World.size_drew] at hc1 hf1 hz1)) | (go_at_call 85; (with_reducible refine (found_144 _).mono ?_); rintro e w1 ⟨rfl, rfl⟩) | (go_at_call 41; (with_reducible refine (ado_c _ _ _ _ _ _).mono ?_); rintro e w1 ⟨rfl, rfl⟩) | (go_at_call 17; (with_reducible refine (fof_c' _ _).mono ?_); rintro e w1 ⟨rfl, hb1⟩; obtain ⟨hc1, hf1, hz1⟩ := bcell hb1; (try simp only [World.size_alloc, World.size_setCell, World.size_drew] at hc1 hf1 hz1)) | (go_at_call 25; (with_reducible refine (fany_c _).mono ?_); rintro e w1 ⟨rfl, hb1⟩; obtain ⟨hc1, hf1, hz1⟩ := bcell hb1; (try simp only [World.size_alloc, World.size_setCell, World.size_drew] at hc1 hf1 hz1)))
  go_wp2_with fail
  refine (do_c' _ _ _ _ _ _).mono ?_
  rintro e wT ⟨rfl, hbwT⟩
  obtain ⟨hcwT, hfwT, hzwT⟩ := bcell hbwT
  (try simp only [World.size_alloc, World.size_setCell, World.size_drew] at hcwT hfwT hzwT)
  go_wp2_with (first | (go_at_call 25; (with_reducible refine (fany_c _).mono ?_); rintro e w1 ⟨rfl, hb1⟩; obtain ⟨hc1, hf1, hz1⟩ := bcell hb1; (try simp only [World.size_alloc, World.size_setCell, World.size_drew] at hc1 hf1 hz1)))
  refine wp_region_class_tail (MkC x y Fa.zero Fa.any.t w wT) 8 (by kernel_rfl) (by kernel_rfl) ?_ ?_
  · refine ⟨?_, ?_, ?_, ?_, ?_, ?_, ?_, ?_, ?_, ?_, ?_, ?_, ?_, ?_, ?_, (by repeat' (first | (with_reducible exact Below.refl _ _) | (with_reducible assumption) | (with_reducible refine Below.alloc ?_ ?_ _) | (with_reducible refine Below.setCell ?_ ?_ _) | (with_reducible refine Below.drew ?_) | (with_reducible refine below_dn ?_ _) | (with_reducible refine Below.trans ?_ (Below.mono (by assumption) ?_)) | go_size))⟩
    all_goals first | (intro i; simp [*, go_sem, ↓IntWalk.iteOmega]; done) | (simp [*, go_sem, ↓IntWalk.iteOmega]; done)
  clear hbwT hcwT hfwT hzwT
  intro hN
  (try simp only [List.append])
  simp only [List.take_succ_cons, List.take_zero, List.drop_succ_cons, List.drop_zero]
  repeat (first
    | go_big_quiet_skip
    | (go_big_quiet_want
       first
         | (refine quiet_load_Tn rfl rfl (fun w' hC => by obtain ⟨k0, k1, k2, k3, k4, k5, k6, k7, k8, k9, k10, k11, k12, k13, k14, k15⟩ := hC; first | exact ⟨k0, k1⟩ | exact ⟨k1, k2⟩ | exact ⟨k2, k3⟩ | exact ⟨k3, k4⟩ | exact ⟨k4, k5⟩ | exact ⟨k5, k6⟩ | exact ⟨k6, k7⟩ | exact ⟨k7, k8⟩ | exact ⟨k8, k9⟩ | exact ⟨k9, k10⟩ | exact ⟨k10, k11⟩ | exact ⟨k11, k12⟩ | exact ⟨k12, k13⟩) ?_
            simp only [Act.put, List.setIfInBounds_toArray, List.set_cons_succ, List.set_cons_zero]
            go_big_quiet_on)
         | (refine quiet_load_Sp rfl rfl (fun w' hC => by obtain ⟨k0, k1, k2, k3, k4, k5, k6, k7, k8, k9, k10, k11, k12, k13, k14, k15⟩ := hC; first | exact ⟨k0, k1⟩ | exact ⟨k1, k2⟩ | exact ⟨k2, k3⟩ | exact ⟨k3, k4⟩ | exact ⟨k4, k5⟩ | exact ⟨k5, k6⟩ | exact ⟨k6, k7⟩ | exact ⟨k7, k8⟩ | exact ⟨k8, k9⟩ | exact ⟨k9, k10⟩ | exact ⟨k10, k11⟩ | exact ⟨k11, k12⟩ | exact ⟨k12, k13⟩) ?_
            simp only [Act.put, List.setIfInBounds_toArray, List.set_cons_succ, List.set_cons_zero]
            go_big_quiet_on)
         | (refine quiet_load_Fa rfl rfl (fun w' hC => by obtain ⟨k0, k1, k2, k3, k4, k5, k6, k7, k8, k9, k10, k11, k12, k13, k14, k15⟩ := hC; first | exact ⟨k0, k1, k2, k3⟩ | exact ⟨k1, k2, k3, k4⟩ | exact ⟨k2, k3, k4, k5⟩ | exact ⟨k3, k4, k5, k6⟩ | exact ⟨k4, k5, k6, k7⟩ | exact ⟨k5, k6, k7, k8⟩ | exact ⟨k6, k7, k8, k9⟩ | exact ⟨k7, k8, k9, k10⟩ | exact ⟨k8, k9, k10, k11⟩ | exact ⟨k9, k10, k11, k12⟩ | exact ⟨k10, k11, k12, k13⟩) ?_
            simp only [Act.put, List.setIfInBounds_toArray, List.set_cons_succ, List.set_cons_zero]
            go_big_quiet_on)
         | (refine quiet_load_W rfl rfl (fun w' hC => by obtain ⟨k0, k1, k2, k3, k4, k5, k6, k7, k8, k9, k10, k11, k12, k13, k14, k15⟩ := hC; first | exact k0 | exact k1 | exact k2 | exact k3 | exact k4 | exact k5 | exact k6 | exact k7 | exact k8 | exact k9 | exact k10 | exact k11 | exact k12 | exact k13) ?_
            simp only [Act.put, List.setIfInBounds_toArray, List.set_cons_succ, List.set_cons_zero]
            go_big_quiet_on)
         | (go_big_quiet_op
            first
              | go_big_quiet_on
              | (apply Exists.intro
                 refine ⟨fun w' hC => ?_, ?_⟩
                 · (first | (go_at_call 87; (with_reducible refine (sdo_c' _ _ _ _ _ _).mono ?_); rintro e w1 ⟨rfl, hb1⟩) | (go_at_call 67; (with_reducible refine (fsettled_c' _ _ _ _ _).mono ?_); rintro e w1 ⟨rfl, hb1⟩))
                   (try simp only [Tn.eta, Sp.eta, Fa.eta])
                   exact ⟨rfl, by first | exact hC | exact MkC_keep _ _ hC hb1⟩
                 go_big_quiet_on))))
  refine wpQuiet_nil ?_
  intro w9 hC
  obtain ⟨k0, k1, k2, k3, k4, k5, k6, k7, k8, k9, k10, k11, k12, k13, k14, k15⟩ := hC
  have z0 := cell_lt k0
  have z4 := cell_lt k4
  have z8 := cell_lt k8
  have z12 := cell_lt k12
  go_wp2
  refine bodyPost_ret ?_ rfl ⟨rfl, (by repeat' (first | (with_reducible exact Below.refl _ _) | (with_reducible assumption) | (with_reducible refine Below.alloc ?_ ?_ _) | (with_reducible refine Below.setCell ?_ ?_ _) | (with_reducible refine Below.drew ?_) | (with_reducible refine below_dn ?_ _) | (with_reducible refine Below.trans ?_ (Below.mono (by assumption) ?_)) | go_size))⟩
  simp only [results, Try.results42]; simp [*, go_sem, ↓IntWalk.iteOmega]; try (first | rfl | exact ⟨rfl, rfl⟩)

set_option maxHeartbeats 1000000 in
theorem mk_mod0_b1 (wd : Bool) (x y : Fa) (t : Tn) (p : BitVec 64) (hx : Fa.known x = some p) (hy : Fa.known y = none) (hd : Tn.do_ 144 x.t (y).t = some t) (w : World) : Calls Try.prog 42 #[.int .u8 144, .bool wd, .int .i16 0, .agg #[.int .u64 (N x.t.v), .int .u64 (N x.t.m), .int .u64 (N x.s.lo), .int .u64 (N x.s.hi)], .agg #[.int .u64 (N y.t.v), .int .u64 (N y.t.m), .int .u64 (N y.s.lo), .int .u64 (N y.s.hi)]] w fun e w' => e = .returned (.agg #[.int .u64 (N (Fa.makes 144 wd 0 x y).t.v), .int .u64 (N (Fa.makes 144 wd 0 x y).t.m), .int .u64 (N (Fa.makes 144 wd 0 x y).s.lo), .int .u64 (N (Fa.makes 144 wd 0 x y).s.hi)]) ∧ Below w.heap.size w w' := by
  rw [Fa.mk_mod0 (.inr hy) (by rw [hy]; simp), Fa.plain_some hd]
  go_enter Try.func42, Try.ntmps42
  go_wp2_with (first | (go_at_call 20; (with_reducible refine (fknown_c' _ _ _ _ _).mono ?_); rintro e w1 ⟨rfl, hb1⟩; obtain ⟨hc1, hf1, hz1⟩ := bcell hb1; (try simp only [World.size_alloc, World.size_setCell, World.size_drew] at hc1 hf1 hz1)) | (go_at_call 85; (with_reducible refine (found_144 _).mono ?_); rintro e w1 ⟨rfl, rfl⟩) | (go_at_call 41; (with_reducible refine (ado_c _ _ _ _ _ _).mono ?_); rintro e w1 ⟨rfl, rfl⟩) | (go_at_call 17; (with_reducible refine (fof_c' _ _).mono ?_); rintro e w1 ⟨rfl, hb1⟩; obtain ⟨hc1, hf1, hz1⟩ := bcell hb1; (try simp only [World.size_alloc, World.size_setCell, World.size_drew] at hc1 hf1 hz1)) | (go_at_call 25; (with_reducible refine (fany_c _).mono ?_); rintro e w1 ⟨rfl, hb1⟩; obtain ⟨hc1, hf1, hz1⟩ := bcell hb1; (try simp only [World.size_alloc, World.size_setCell, World.size_drew] at hc1 hf1 hz1)))
  go_wp2_with fail
  refine (do_c' _ _ _ _ _ _).mono ?_
  rintro e wT ⟨rfl, hbwT⟩
  obtain ⟨hcwT, hfwT, hzwT⟩ := bcell hbwT
  (try simp only [World.size_alloc, World.size_setCell, World.size_drew] at hcwT hfwT hzwT)
  go_wp2_with (first | (go_at_call 25; (with_reducible refine (fany_c _).mono ?_); rintro e w1 ⟨rfl, hb1⟩; obtain ⟨hc1, hf1, hz1⟩ := bcell hb1; (try simp only [World.size_alloc, World.size_setCell, World.size_drew] at hc1 hf1 hz1)))
  refine wp_region_class_tail (MkC x y Fa.zero t w wT) 8 (by kernel_rfl) (by kernel_rfl) ?_ ?_
  · refine ⟨?_, ?_, ?_, ?_, ?_, ?_, ?_, ?_, ?_, ?_, ?_, ?_, ?_, ?_, ?_, (by repeat' (first | (with_reducible exact Below.refl _ _) | (with_reducible assumption) | (with_reducible refine Below.alloc ?_ ?_ _) | (with_reducible refine Below.setCell ?_ ?_ _) | (with_reducible refine Below.drew ?_) | (with_reducible refine below_dn ?_ _) | (with_reducible refine Below.trans ?_ (Below.mono (by assumption) ?_)) | go_size))⟩
    all_goals first | (intro i; simp [*, go_sem, ↓IntWalk.iteOmega]; done) | (simp [*, go_sem, ↓IntWalk.iteOmega]; done)
  clear hbwT hcwT hfwT hzwT
  intro hN
  (try simp only [List.append])
  simp only [List.take_succ_cons, List.take_zero, List.drop_succ_cons, List.drop_zero]
  repeat (first
    | go_big_quiet_skip
    | (go_big_quiet_want
       first
         | (refine quiet_load_Tn rfl rfl (fun w' hC => by obtain ⟨k0, k1, k2, k3, k4, k5, k6, k7, k8, k9, k10, k11, k12, k13, k14, k15⟩ := hC; first | exact ⟨k0, k1⟩ | exact ⟨k1, k2⟩ | exact ⟨k2, k3⟩ | exact ⟨k3, k4⟩ | exact ⟨k4, k5⟩ | exact ⟨k5, k6⟩ | exact ⟨k6, k7⟩ | exact ⟨k7, k8⟩ | exact ⟨k8, k9⟩ | exact ⟨k9, k10⟩ | exact ⟨k10, k11⟩ | exact ⟨k11, k12⟩ | exact ⟨k12, k13⟩) ?_
            simp only [Act.put, List.setIfInBounds_toArray, List.set_cons_succ, List.set_cons_zero]
            go_big_quiet_on)
         | (refine quiet_load_Sp rfl rfl (fun w' hC => by obtain ⟨k0, k1, k2, k3, k4, k5, k6, k7, k8, k9, k10, k11, k12, k13, k14, k15⟩ := hC; first | exact ⟨k0, k1⟩ | exact ⟨k1, k2⟩ | exact ⟨k2, k3⟩ | exact ⟨k3, k4⟩ | exact ⟨k4, k5⟩ | exact ⟨k5, k6⟩ | exact ⟨k6, k7⟩ | exact ⟨k7, k8⟩ | exact ⟨k8, k9⟩ | exact ⟨k9, k10⟩ | exact ⟨k10, k11⟩ | exact ⟨k11, k12⟩ | exact ⟨k12, k13⟩) ?_
            simp only [Act.put, List.setIfInBounds_toArray, List.set_cons_succ, List.set_cons_zero]
            go_big_quiet_on)
         | (refine quiet_load_Fa rfl rfl (fun w' hC => by obtain ⟨k0, k1, k2, k3, k4, k5, k6, k7, k8, k9, k10, k11, k12, k13, k14, k15⟩ := hC; first | exact ⟨k0, k1, k2, k3⟩ | exact ⟨k1, k2, k3, k4⟩ | exact ⟨k2, k3, k4, k5⟩ | exact ⟨k3, k4, k5, k6⟩ | exact ⟨k4, k5, k6, k7⟩ | exact ⟨k5, k6, k7, k8⟩ | exact ⟨k6, k7, k8, k9⟩ | exact ⟨k7, k8, k9, k10⟩ | exact ⟨k8, k9, k10, k11⟩ | exact ⟨k9, k10, k11, k12⟩ | exact ⟨k10, k11, k12, k13⟩) ?_
            simp only [Act.put, List.setIfInBounds_toArray, List.set_cons_succ, List.set_cons_zero]
            go_big_quiet_on)
         | (refine quiet_load_W rfl rfl (fun w' hC => by obtain ⟨k0, k1, k2, k3, k4, k5, k6, k7, k8, k9, k10, k11, k12, k13, k14, k15⟩ := hC; first | exact k0 | exact k1 | exact k2 | exact k3 | exact k4 | exact k5 | exact k6 | exact k7 | exact k8 | exact k9 | exact k10 | exact k11 | exact k12 | exact k13) ?_
            simp only [Act.put, List.setIfInBounds_toArray, List.set_cons_succ, List.set_cons_zero]
            go_big_quiet_on)
         | (go_big_quiet_op
            first
              | go_big_quiet_on
              | (apply Exists.intro
                 refine ⟨fun w' hC => ?_, ?_⟩
                 · (first | (go_at_call 87; (with_reducible refine (sdo_c' _ _ _ _ _ _).mono ?_); rintro e w1 ⟨rfl, hb1⟩) | (go_at_call 67; (with_reducible refine (fsettled_c' _ _ _ _ _).mono ?_); rintro e w1 ⟨rfl, hb1⟩))
                   (try simp only [Tn.eta, Sp.eta, Fa.eta])
                   exact ⟨rfl, by first | exact hC | exact MkC_keep _ _ hC hb1⟩
                 go_big_quiet_on))))
  refine wpQuiet_nil ?_
  intro w9 hC
  obtain ⟨k0, k1, k2, k3, k4, k5, k6, k7, k8, k9, k10, k11, k12, k13, k14, k15⟩ := hC
  have z0 := cell_lt k0
  have z4 := cell_lt k4
  have z8 := cell_lt k8
  have z12 := cell_lt k12
  go_wp2
  refine bodyPost_ret ?_ rfl ⟨rfl, (by repeat' (first | (with_reducible exact Below.refl _ _) | (with_reducible assumption) | (with_reducible refine Below.alloc ?_ ?_ _) | (with_reducible refine Below.setCell ?_ ?_ _) | (with_reducible refine Below.drew ?_) | (with_reducible refine below_dn ?_ _) | (with_reducible refine Below.trans ?_ (Below.mono (by assumption) ?_)) | go_size))⟩
  simp only [results, Try.results42]; simp [*, go_sem, ↓IntWalk.iteOmega]; try (first | rfl | exact ⟨rfl, rfl⟩)

set_option maxHeartbeats 1000000 in
theorem mk_mod0_c0 (wd : Bool) (x y : Fa) (t : Tn) (q : BitVec 64) (hx : Fa.known x = none) (hy : Fa.known y = some q) (hq : (q == 0#64) = false) (hd : Tn.do_ 144 x.t (y).t = none) (w : World) : Calls Try.prog 42 #[.int .u8 144, .bool wd, .int .i16 0, .agg #[.int .u64 (N x.t.v), .int .u64 (N x.t.m), .int .u64 (N x.s.lo), .int .u64 (N x.s.hi)], .agg #[.int .u64 (N y.t.v), .int .u64 (N y.t.m), .int .u64 (N y.s.lo), .int .u64 (N y.s.hi)]] w fun e w' => e = .returned (.agg #[.int .u64 (N (Fa.makes 144 wd 0 x y).t.v), .int .u64 (N (Fa.makes 144 wd 0 x y).t.m), .int .u64 (N (Fa.makes 144 wd 0 x y).s.lo), .int .u64 (N (Fa.makes 144 wd 0 x y).s.hi)]) ∧ Below w.heap.size w w' := by
  rw [Fa.mk_mod0 (.inl hx) (by rw [hy]; simpa using hq), Fa.plain_none hd]
  go_enter Try.func42, Try.ntmps42
  go_wp2_with (first | (go_at_call 20; (with_reducible refine (fknown_c' _ _ _ _ _).mono ?_); rintro e w1 ⟨rfl, hb1⟩; obtain ⟨hc1, hf1, hz1⟩ := bcell hb1; (try simp only [World.size_alloc, World.size_setCell, World.size_drew] at hc1 hf1 hz1)) | (go_at_call 85; (with_reducible refine (found_144 _).mono ?_); rintro e w1 ⟨rfl, rfl⟩) | (go_at_call 41; (with_reducible refine (ado_c _ _ _ _ _ _).mono ?_); rintro e w1 ⟨rfl, rfl⟩) | (go_at_call 17; (with_reducible refine (fof_c' _ _).mono ?_); rintro e w1 ⟨rfl, hb1⟩; obtain ⟨hc1, hf1, hz1⟩ := bcell hb1; (try simp only [World.size_alloc, World.size_setCell, World.size_drew] at hc1 hf1 hz1)) | (go_at_call 25; (with_reducible refine (fany_c _).mono ?_); rintro e w1 ⟨rfl, hb1⟩; obtain ⟨hc1, hf1, hz1⟩ := bcell hb1; (try simp only [World.size_alloc, World.size_setCell, World.size_drew] at hc1 hf1 hz1)))
  go_wp2_with fail
  refine (do_c' _ _ _ _ _ _).mono ?_
  rintro e wT ⟨rfl, hbwT⟩
  obtain ⟨hcwT, hfwT, hzwT⟩ := bcell hbwT
  (try simp only [World.size_alloc, World.size_setCell, World.size_drew] at hcwT hfwT hzwT)
  go_wp2_with (first | (go_at_call 25; (with_reducible refine (fany_c _).mono ?_); rintro e w1 ⟨rfl, hb1⟩; obtain ⟨hc1, hf1, hz1⟩ := bcell hb1; (try simp only [World.size_alloc, World.size_setCell, World.size_drew] at hc1 hf1 hz1)))
  refine wp_region_class_tail (MkC x y Fa.zero Fa.any.t w wT) 8 (by kernel_rfl) (by kernel_rfl) ?_ ?_
  · refine ⟨?_, ?_, ?_, ?_, ?_, ?_, ?_, ?_, ?_, ?_, ?_, ?_, ?_, ?_, ?_, (by repeat' (first | (with_reducible exact Below.refl _ _) | (with_reducible assumption) | (with_reducible refine Below.alloc ?_ ?_ _) | (with_reducible refine Below.setCell ?_ ?_ _) | (with_reducible refine Below.drew ?_) | (with_reducible refine below_dn ?_ _) | (with_reducible refine Below.trans ?_ (Below.mono (by assumption) ?_)) | go_size))⟩
    all_goals first | (intro i; simp [*, go_sem, ↓IntWalk.iteOmega]; done) | (simp [*, go_sem, ↓IntWalk.iteOmega]; done)
  clear hbwT hcwT hfwT hzwT
  intro hN
  (try simp only [List.append])
  simp only [List.take_succ_cons, List.take_zero, List.drop_succ_cons, List.drop_zero]
  repeat (first
    | go_big_quiet_skip
    | (go_big_quiet_want
       first
         | (refine quiet_load_Tn rfl rfl (fun w' hC => by obtain ⟨k0, k1, k2, k3, k4, k5, k6, k7, k8, k9, k10, k11, k12, k13, k14, k15⟩ := hC; first | exact ⟨k0, k1⟩ | exact ⟨k1, k2⟩ | exact ⟨k2, k3⟩ | exact ⟨k3, k4⟩ | exact ⟨k4, k5⟩ | exact ⟨k5, k6⟩ | exact ⟨k6, k7⟩ | exact ⟨k7, k8⟩ | exact ⟨k8, k9⟩ | exact ⟨k9, k10⟩ | exact ⟨k10, k11⟩ | exact ⟨k11, k12⟩ | exact ⟨k12, k13⟩) ?_
            simp only [Act.put, List.setIfInBounds_toArray, List.set_cons_succ, List.set_cons_zero]
            go_big_quiet_on)
         | (refine quiet_load_Sp rfl rfl (fun w' hC => by obtain ⟨k0, k1, k2, k3, k4, k5, k6, k7, k8, k9, k10, k11, k12, k13, k14, k15⟩ := hC; first | exact ⟨k0, k1⟩ | exact ⟨k1, k2⟩ | exact ⟨k2, k3⟩ | exact ⟨k3, k4⟩ | exact ⟨k4, k5⟩ | exact ⟨k5, k6⟩ | exact ⟨k6, k7⟩ | exact ⟨k7, k8⟩ | exact ⟨k8, k9⟩ | exact ⟨k9, k10⟩ | exact ⟨k10, k11⟩ | exact ⟨k11, k12⟩ | exact ⟨k12, k13⟩) ?_
            simp only [Act.put, List.setIfInBounds_toArray, List.set_cons_succ, List.set_cons_zero]
            go_big_quiet_on)
         | (refine quiet_load_Fa rfl rfl (fun w' hC => by obtain ⟨k0, k1, k2, k3, k4, k5, k6, k7, k8, k9, k10, k11, k12, k13, k14, k15⟩ := hC; first | exact ⟨k0, k1, k2, k3⟩ | exact ⟨k1, k2, k3, k4⟩ | exact ⟨k2, k3, k4, k5⟩ | exact ⟨k3, k4, k5, k6⟩ | exact ⟨k4, k5, k6, k7⟩ | exact ⟨k5, k6, k7, k8⟩ | exact ⟨k6, k7, k8, k9⟩ | exact ⟨k7, k8, k9, k10⟩ | exact ⟨k8, k9, k10, k11⟩ | exact ⟨k9, k10, k11, k12⟩ | exact ⟨k10, k11, k12, k13⟩) ?_
            simp only [Act.put, List.setIfInBounds_toArray, List.set_cons_succ, List.set_cons_zero]
            go_big_quiet_on)
         | (refine quiet_load_W rfl rfl (fun w' hC => by obtain ⟨k0, k1, k2, k3, k4, k5, k6, k7, k8, k9, k10, k11, k12, k13, k14, k15⟩ := hC; first | exact k0 | exact k1 | exact k2 | exact k3 | exact k4 | exact k5 | exact k6 | exact k7 | exact k8 | exact k9 | exact k10 | exact k11 | exact k12 | exact k13) ?_
            simp only [Act.put, List.setIfInBounds_toArray, List.set_cons_succ, List.set_cons_zero]
            go_big_quiet_on)
         | (go_big_quiet_op
            first
              | go_big_quiet_on
              | (apply Exists.intro
                 refine ⟨fun w' hC => ?_, ?_⟩
                 · (first | (go_at_call 87; (with_reducible refine (sdo_c' _ _ _ _ _ _).mono ?_); rintro e w1 ⟨rfl, hb1⟩) | (go_at_call 67; (with_reducible refine (fsettled_c' _ _ _ _ _).mono ?_); rintro e w1 ⟨rfl, hb1⟩))
                   (try simp only [Tn.eta, Sp.eta, Fa.eta])
                   exact ⟨rfl, by first | exact hC | exact MkC_keep _ _ hC hb1⟩
                 go_big_quiet_on))))
  refine wpQuiet_nil ?_
  intro w9 hC
  obtain ⟨k0, k1, k2, k3, k4, k5, k6, k7, k8, k9, k10, k11, k12, k13, k14, k15⟩ := hC
  have z0 := cell_lt k0
  have z4 := cell_lt k4
  have z8 := cell_lt k8
  have z12 := cell_lt k12
  go_wp2
  refine bodyPost_ret ?_ rfl ⟨rfl, (by repeat' (first | (with_reducible exact Below.refl _ _) | (with_reducible assumption) | (with_reducible refine Below.alloc ?_ ?_ _) | (with_reducible refine Below.setCell ?_ ?_ _) | (with_reducible refine Below.drew ?_) | (with_reducible refine below_dn ?_ _) | (with_reducible refine Below.trans ?_ (Below.mono (by assumption) ?_)) | go_size))⟩
  simp only [results, Try.results42]; simp [*, go_sem, ↓IntWalk.iteOmega]; try (first | rfl | exact ⟨rfl, rfl⟩)

set_option maxHeartbeats 1000000 in
theorem mk_mod0_c1 (wd : Bool) (x y : Fa) (t : Tn) (q : BitVec 64) (hx : Fa.known x = none) (hy : Fa.known y = some q) (hq : (q == 0#64) = false) (hd : Tn.do_ 144 x.t (y).t = some t) (w : World) : Calls Try.prog 42 #[.int .u8 144, .bool wd, .int .i16 0, .agg #[.int .u64 (N x.t.v), .int .u64 (N x.t.m), .int .u64 (N x.s.lo), .int .u64 (N x.s.hi)], .agg #[.int .u64 (N y.t.v), .int .u64 (N y.t.m), .int .u64 (N y.s.lo), .int .u64 (N y.s.hi)]] w fun e w' => e = .returned (.agg #[.int .u64 (N (Fa.makes 144 wd 0 x y).t.v), .int .u64 (N (Fa.makes 144 wd 0 x y).t.m), .int .u64 (N (Fa.makes 144 wd 0 x y).s.lo), .int .u64 (N (Fa.makes 144 wd 0 x y).s.hi)]) ∧ Below w.heap.size w w' := by
  rw [Fa.mk_mod0 (.inl hx) (by rw [hy]; simpa using hq), Fa.plain_some hd]
  go_enter Try.func42, Try.ntmps42
  go_wp2_with (first | (go_at_call 20; (with_reducible refine (fknown_c' _ _ _ _ _).mono ?_); rintro e w1 ⟨rfl, hb1⟩; obtain ⟨hc1, hf1, hz1⟩ := bcell hb1; (try simp only [World.size_alloc, World.size_setCell, World.size_drew] at hc1 hf1 hz1)) | (go_at_call 85; (with_reducible refine (found_144 _).mono ?_); rintro e w1 ⟨rfl, rfl⟩) | (go_at_call 41; (with_reducible refine (ado_c _ _ _ _ _ _).mono ?_); rintro e w1 ⟨rfl, rfl⟩) | (go_at_call 17; (with_reducible refine (fof_c' _ _).mono ?_); rintro e w1 ⟨rfl, hb1⟩; obtain ⟨hc1, hf1, hz1⟩ := bcell hb1; (try simp only [World.size_alloc, World.size_setCell, World.size_drew] at hc1 hf1 hz1)) | (go_at_call 25; (with_reducible refine (fany_c _).mono ?_); rintro e w1 ⟨rfl, hb1⟩; obtain ⟨hc1, hf1, hz1⟩ := bcell hb1; (try simp only [World.size_alloc, World.size_setCell, World.size_drew] at hc1 hf1 hz1)))
  go_wp2_with fail
  refine (do_c' _ _ _ _ _ _).mono ?_
  rintro e wT ⟨rfl, hbwT⟩
  obtain ⟨hcwT, hfwT, hzwT⟩ := bcell hbwT
  (try simp only [World.size_alloc, World.size_setCell, World.size_drew] at hcwT hfwT hzwT)
  go_wp2_with (first | (go_at_call 25; (with_reducible refine (fany_c _).mono ?_); rintro e w1 ⟨rfl, hb1⟩; obtain ⟨hc1, hf1, hz1⟩ := bcell hb1; (try simp only [World.size_alloc, World.size_setCell, World.size_drew] at hc1 hf1 hz1)))
  refine wp_region_class_tail (MkC x y Fa.zero t w wT) 8 (by kernel_rfl) (by kernel_rfl) ?_ ?_
  · refine ⟨?_, ?_, ?_, ?_, ?_, ?_, ?_, ?_, ?_, ?_, ?_, ?_, ?_, ?_, ?_, (by repeat' (first | (with_reducible exact Below.refl _ _) | (with_reducible assumption) | (with_reducible refine Below.alloc ?_ ?_ _) | (with_reducible refine Below.setCell ?_ ?_ _) | (with_reducible refine Below.drew ?_) | (with_reducible refine below_dn ?_ _) | (with_reducible refine Below.trans ?_ (Below.mono (by assumption) ?_)) | go_size))⟩
    all_goals first | (intro i; simp [*, go_sem, ↓IntWalk.iteOmega]; done) | (simp [*, go_sem, ↓IntWalk.iteOmega]; done)
  clear hbwT hcwT hfwT hzwT
  intro hN
  (try simp only [List.append])
  simp only [List.take_succ_cons, List.take_zero, List.drop_succ_cons, List.drop_zero]
  repeat (first
    | go_big_quiet_skip
    | (go_big_quiet_want
       first
         | (refine quiet_load_Tn rfl rfl (fun w' hC => by obtain ⟨k0, k1, k2, k3, k4, k5, k6, k7, k8, k9, k10, k11, k12, k13, k14, k15⟩ := hC; first | exact ⟨k0, k1⟩ | exact ⟨k1, k2⟩ | exact ⟨k2, k3⟩ | exact ⟨k3, k4⟩ | exact ⟨k4, k5⟩ | exact ⟨k5, k6⟩ | exact ⟨k6, k7⟩ | exact ⟨k7, k8⟩ | exact ⟨k8, k9⟩ | exact ⟨k9, k10⟩ | exact ⟨k10, k11⟩ | exact ⟨k11, k12⟩ | exact ⟨k12, k13⟩) ?_
            simp only [Act.put, List.setIfInBounds_toArray, List.set_cons_succ, List.set_cons_zero]
            go_big_quiet_on)
         | (refine quiet_load_Sp rfl rfl (fun w' hC => by obtain ⟨k0, k1, k2, k3, k4, k5, k6, k7, k8, k9, k10, k11, k12, k13, k14, k15⟩ := hC; first | exact ⟨k0, k1⟩ | exact ⟨k1, k2⟩ | exact ⟨k2, k3⟩ | exact ⟨k3, k4⟩ | exact ⟨k4, k5⟩ | exact ⟨k5, k6⟩ | exact ⟨k6, k7⟩ | exact ⟨k7, k8⟩ | exact ⟨k8, k9⟩ | exact ⟨k9, k10⟩ | exact ⟨k10, k11⟩ | exact ⟨k11, k12⟩ | exact ⟨k12, k13⟩) ?_
            simp only [Act.put, List.setIfInBounds_toArray, List.set_cons_succ, List.set_cons_zero]
            go_big_quiet_on)
         | (refine quiet_load_Fa rfl rfl (fun w' hC => by obtain ⟨k0, k1, k2, k3, k4, k5, k6, k7, k8, k9, k10, k11, k12, k13, k14, k15⟩ := hC; first | exact ⟨k0, k1, k2, k3⟩ | exact ⟨k1, k2, k3, k4⟩ | exact ⟨k2, k3, k4, k5⟩ | exact ⟨k3, k4, k5, k6⟩ | exact ⟨k4, k5, k6, k7⟩ | exact ⟨k5, k6, k7, k8⟩ | exact ⟨k6, k7, k8, k9⟩ | exact ⟨k7, k8, k9, k10⟩ | exact ⟨k8, k9, k10, k11⟩ | exact ⟨k9, k10, k11, k12⟩ | exact ⟨k10, k11, k12, k13⟩) ?_
            simp only [Act.put, List.setIfInBounds_toArray, List.set_cons_succ, List.set_cons_zero]
            go_big_quiet_on)
         | (refine quiet_load_W rfl rfl (fun w' hC => by obtain ⟨k0, k1, k2, k3, k4, k5, k6, k7, k8, k9, k10, k11, k12, k13, k14, k15⟩ := hC; first | exact k0 | exact k1 | exact k2 | exact k3 | exact k4 | exact k5 | exact k6 | exact k7 | exact k8 | exact k9 | exact k10 | exact k11 | exact k12 | exact k13) ?_
            simp only [Act.put, List.setIfInBounds_toArray, List.set_cons_succ, List.set_cons_zero]
            go_big_quiet_on)
         | (go_big_quiet_op
            first
              | go_big_quiet_on
              | (apply Exists.intro
                 refine ⟨fun w' hC => ?_, ?_⟩
                 · (first | (go_at_call 87; (with_reducible refine (sdo_c' _ _ _ _ _ _).mono ?_); rintro e w1 ⟨rfl, hb1⟩) | (go_at_call 67; (with_reducible refine (fsettled_c' _ _ _ _ _).mono ?_); rintro e w1 ⟨rfl, hb1⟩))
                   (try simp only [Tn.eta, Sp.eta, Fa.eta])
                   exact ⟨rfl, by first | exact hC | exact MkC_keep _ _ hC hb1⟩
                 go_big_quiet_on))))
  refine wpQuiet_nil ?_
  intro w9 hC
  obtain ⟨k0, k1, k2, k3, k4, k5, k6, k7, k8, k9, k10, k11, k12, k13, k14, k15⟩ := hC
  have z0 := cell_lt k0
  have z4 := cell_lt k4
  have z8 := cell_lt k8
  have z12 := cell_lt k12
  go_wp2
  refine bodyPost_ret ?_ rfl ⟨rfl, (by repeat' (first | (with_reducible exact Below.refl _ _) | (with_reducible assumption) | (with_reducible refine Below.alloc ?_ ?_ _) | (with_reducible refine Below.setCell ?_ ?_ _) | (with_reducible refine Below.drew ?_) | (with_reducible refine below_dn ?_ _) | (with_reducible refine Below.trans ?_ (Below.mono (by assumption) ?_)) | go_size))⟩
  simp only [results, Try.results42]; simp [*, go_sem, ↓IntWalk.iteOmega]; try (first | rfl | exact ⟨rfl, rfl⟩)

theorem mk_mod1 (wd : Bool) (x y : Fa) (hx : Fa.known x = none) (hy : Fa.known y = some 0#64) (w : World) : Calls Try.prog 42 #[.int .u8 144, .bool wd, .int .i16 0, .agg #[.int .u64 (N x.t.v), .int .u64 (N x.t.m), .int .u64 (N x.s.lo), .int .u64 (N x.s.hi)], .agg #[.int .u64 (N y.t.v), .int .u64 (N y.t.m), .int .u64 (N y.s.lo), .int .u64 (N y.s.hi)]] w fun e w' => e = .returned (.agg #[.int .u64 (N (Fa.makes 144 wd 0 x y).t.v), .int .u64 (N (Fa.makes 144 wd 0 x y).t.m), .int .u64 (N (Fa.makes 144 wd 0 x y).s.lo), .int .u64 (N (Fa.makes 144 wd 0 x y).s.hi)]) ∧ Below w.heap.size w w' := by
  rw [Fa.mk_mod1 (.inl hx) hy]
  go_enter Try.func42, Try.ntmps42
  go_wp2_with (first | (go_at_call 20; (with_reducible refine (fknown_c' _ _ _ _ _).mono ?_); rintro e w1 ⟨rfl, hb1⟩; obtain ⟨hc1, hf1, hz1⟩ := bcell hb1; (try simp only [World.size_alloc, World.size_setCell, World.size_drew] at hc1 hf1 hz1)) | (go_at_call 85; (with_reducible refine (found_144 _).mono ?_); rintro e w1 ⟨rfl, rfl⟩) | (go_at_call 41; (with_reducible refine (ado_c _ _ _ _ _ _).mono ?_); rintro e w1 ⟨rfl, rfl⟩) | (go_at_call 17; (with_reducible refine (fof_c' _ _).mono ?_); rintro e w1 ⟨rfl, hb1⟩; obtain ⟨hc1, hf1, hz1⟩ := bcell hb1; (try simp only [World.size_alloc, World.size_setCell, World.size_drew] at hc1 hf1 hz1)) | (go_at_call 25; (with_reducible refine (fany_c _).mono ?_); rintro e w1 ⟨rfl, hb1⟩; obtain ⟨hc1, hf1, hz1⟩ := bcell hb1; (try simp only [World.size_alloc, World.size_setCell, World.size_drew] at hc1 hf1 hz1)))
  refine bodyPost_ret ?_ rfl ⟨rfl, (by repeat' (first | (with_reducible exact Below.refl _ _) | (with_reducible assumption) | (with_reducible refine Below.alloc ?_ ?_ _) | (with_reducible refine Below.setCell ?_ ?_ _) | (with_reducible refine Below.drew ?_) | (with_reducible refine below_dn ?_ _) | (with_reducible refine Below.trans ?_ (Below.mono (by assumption) ?_)) | go_size))⟩
  simp only [results, Try.results42]; simp [*, go_sem, ↓IntWalk.iteOmega]; try (first | rfl | exact ⟨rfl, rfl⟩)

end Hk
