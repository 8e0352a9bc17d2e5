/- The reference of facts: wide, what bits and range make (s); old memory is as it was. No condition but those in each statement. -/
import Derived.Test.YtmhkngblpojeaaaProg
import Derived.Test.YtmhkngblpojeaaaGp
import Derived.Test.YtmhkngblpojeaaaGf
import Derived.Test.YtmhkngblpojeaaaFa7
import Derived.Test.YtmhkngblpojeaaaFr5
import Derived.Test.YtmhkngblpojeaaaSr2
import Derived.Test.YtmhkngblpojeaaaRc5
import Derived.Test.YtmhkngblpojeaaaGl
import Derived.Deep.DeepCutAuto
import Derived.Test.YtmhkngblpojeaaaFr7
namespace Hk
open Go Go.RowKit Go.Proofs
set_option linter.unusedSimpArgs false
set_option linter.unusedVariables false
set_option maxRecDepth 100000
attribute [go_sem] Tn.eta Alu.val_some Alu.err_some Alu.val_none Alu.err_none
set_option maxHeartbeats 2000000 in
theorem wd_add_s0 (nw : Bool) (x y : Fa) (t : Tn) (q : BitVec 64) (hx : Fa.known x = none) (hy : Fa.known y = some q) (hd : Tn.do_ 0 x.t (y).t = none) (w : World) : Calls Try.prog 43 #[.int .u8 0, .bool nw, .int .i16 0, .agg #[.int .u64 (N x.t.v), .int .u64 (N x.t.m), .int .u64 (N x.s.lo), .int .u64 (N x.s.hi)], .agg #[.int .u64 (N y.t.v), .int .u64 (N y.t.m), .int .u64 (N y.s.lo), .int .u64 (N y.s.hi)]] w fun e w' => e = .returned (.agg #[.int .u64 (N (Fa.makes 0 (!nw) 0 x y).t.v), .int .u64 (N (Fa.makes 0 (!nw) 0 x y).t.m), .int .u64 (N (Fa.makes 0 (!nw) 0 x y).s.lo), .int .u64 (N (Fa.makes 0 (!nw) 0 x y).s.hi)]) ∧ Below w.heap.size w w' := by
  rw [Fa.mk_add (.inl hx), Fa.plain_none hd]
  go_enter Try.func43, Try.ntmps43
  go_wp2_with (first | (go_at_call 21; (with_reducible refine (rfknown_c' _ _ _ _ _).mono ?_); rintro e w1 ⟨rfl, hb1⟩; obtain ⟨hc1, hf1, hz1⟩ := bcell hb1; (try simp only [World.size_alloc, World.size_setCell, World.size_drew] at hc1 hf1 hz1)))
  go_wp2_with fail
  refine (r_do_c' _ _ _ _ _ _).mono ?_
  rintro e wT ⟨rfl, hbwT⟩
  obtain ⟨hcwT, hfwT, hzwT⟩ := bcell hbwT
  (try simp only [World.size_alloc, World.size_setCell, World.size_drew] at hcwT hfwT hzwT)
  go_wp2_with (first | (go_at_call 26; (with_reducible refine (rfany_c _).mono ?_); rintro e w1 ⟨rfl, hb1⟩; obtain ⟨hc1, hf1, hz1⟩ := bcell hb1; (try simp only [World.size_alloc, World.size_setCell, World.size_drew] at hc1 hf1 hz1)))
  refine wp_region_class_tail (WideC x y Fa.zero Fa.any.t w wT) 8 (by kernel_rfl) (by kernel_rfl) ?_ ?_
  · refine ⟨?_, ?_, ?_, ?_, ?_, ?_, ?_, ?_, ?_, ?_, ?_, ?_, ?_, ?_, ?_, ?_, (by repeat' (first | (with_reducible exact Below.refl _ _) | (with_reducible assumption) | (with_reducible refine Below.alloc ?_ ?_ _) | (with_reducible refine Below.setCell ?_ ?_ _) | (with_reducible refine Below.drew ?_) | (with_reducible refine below_dn ?_ _) | (with_reducible refine Below.trans ?_ (Below.mono (by assumption) ?_)) | go_size))⟩
    all_goals first | (intro i; simp [*, go_sem, ↓IntWalk.iteOmega]; done) | (simp [*, go_sem, ↓IntWalk.iteOmega]; done)
  clear hbwT hcwT hfwT hzwT
  intro hN
  (try simp only [List.append])
  simp only [List.take_succ_cons, List.take_zero, List.drop_succ_cons, List.drop_zero]
  repeat (first
    | go_big_quiet_skip
    | (go_big_quiet_want
       first
         | ((first | (refine quiet_load_Tn rfl rfl (fun w' hC => by obtain ⟨k0, k1, k2, k3, k4, k5, k6, k7, k8, k9, k10, k11, k12, k13, k14, k15, k16⟩ := hC; exact ⟨by assumption, by assumption⟩) ?_) | (refine quiet_load_Sp rfl rfl (fun w' hC => by obtain ⟨k0, k1, k2, k3, k4, k5, k6, k7, k8, k9, k10, k11, k12, k13, k14, k15, k16⟩ := hC; exact ⟨by assumption, by assumption⟩) ?_) | (refine quiet_load_Fa rfl rfl (fun w' hC => by obtain ⟨k0, k1, k2, k3, k4, k5, k6, k7, k8, k9, k10, k11, k12, k13, k14, k15, k16⟩ := hC; exact ⟨by assumption, by assumption, by assumption, by assumption⟩) ?_) | (refine quiet_load_W rfl rfl (fun w' hC => by obtain ⟨k0, k1, k2, k3, k4, k5, k6, k7, k8, k9, k10, k11, k12, k13, k14, k15, k16⟩ := hC; assumption) ?_))
            simp only [Act.put, List.setIfInBounds_toArray, List.set_cons_succ, List.set_cons_zero]
            go_big_quiet_on)
         | (go_big_quiet_op
            first
              | go_big_quiet_on
              | (apply Exists.intro
                 refine ⟨fun w' hC => ?_, ?_⟩
                 · (first | (go_at_call 89; (with_reducible refine (rsdo_c' _ _ _ _ _ _).mono ?_); rintro e w1 ⟨rfl, hb1⟩) | (go_at_call 60; (with_reducible refine (rfsettled_c' _ _ _ _ _).mono ?_); rintro e w1 ⟨rfl, hb1⟩))
                   (try simp only [Tn.eta, Sp.eta, Fa.eta])
                   exact ⟨rfl, by first | exact hC | exact WideC_keep _ _ hC hb1⟩
                 go_big_quiet_on))))
  refine wpQuiet_nil ?_
  intro w9 hC
  obtain ⟨k0, k1, k2, k3, k4, k5, k6, k7, k8, k9, k10, k11, k12, k13, k14, k15, k16⟩ := hC
  have z0 := cell_lt k0
  have z4 := cell_lt k4
  have z8 := cell_lt k8
  have z12 := cell_lt k12
  go_wp2
  refine bodyPost_ret ?_ rfl ⟨rfl, (by repeat' (first | (with_reducible assumption) | (with_reducible refine Below.setCell ?_ ?_ _) | go_size))⟩
  simp only [results, Try.results43]; simp [*, go_sem, ↓IntWalk.iteOmega]; try (first | rfl | exact ⟨rfl, rfl⟩)

set_option maxHeartbeats 2000000 in
theorem wd_add_s1 (nw : Bool) (x y : Fa) (t : Tn) (q : BitVec 64) (hx : Fa.known x = none) (hy : Fa.known y = some q) (hd : Tn.do_ 0 x.t (y).t = some t) (w : World) : Calls Try.prog 43 #[.int .u8 0, .bool nw, .int .i16 0, .agg #[.int .u64 (N x.t.v), .int .u64 (N x.t.m), .int .u64 (N x.s.lo), .int .u64 (N x.s.hi)], .agg #[.int .u64 (N y.t.v), .int .u64 (N y.t.m), .int .u64 (N y.s.lo), .int .u64 (N y.s.hi)]] w fun e w' => e = .returned (.agg #[.int .u64 (N (Fa.makes 0 (!nw) 0 x y).t.v), .int .u64 (N (Fa.makes 0 (!nw) 0 x y).t.m), .int .u64 (N (Fa.makes 0 (!nw) 0 x y).s.lo), .int .u64 (N (Fa.makes 0 (!nw) 0 x y).s.hi)]) ∧ Below w.heap.size w w' := by
  rw [Fa.mk_add (.inl hx), Fa.plain_some hd]
  go_enter Try.func43, Try.ntmps43
  go_wp2_with (first | (go_at_call 21; (with_reducible refine (rfknown_c' _ _ _ _ _).mono ?_); rintro e w1 ⟨rfl, hb1⟩; obtain ⟨hc1, hf1, hz1⟩ := bcell hb1; (try simp only [World.size_alloc, World.size_setCell, World.size_drew] at hc1 hf1 hz1)))
  go_wp2_with fail
  refine (r_do_c' _ _ _ _ _ _).mono ?_
  rintro e wT ⟨rfl, hbwT⟩
  obtain ⟨hcwT, hfwT, hzwT⟩ := bcell hbwT
  (try simp only [World.size_alloc, World.size_setCell, World.size_drew] at hcwT hfwT hzwT)
  go_wp2_with fail
  refine wp_region_class_tail (WideC x y Fa.zero t w wT) 8 (by kernel_rfl) (by kernel_rfl) ?_ ?_
  · refine ⟨?_, ?_, ?_, ?_, ?_, ?_, ?_, ?_, ?_, ?_, ?_, ?_, ?_, ?_, ?_, ?_, (by repeat' (first | (with_reducible exact Below.refl _ _) | (with_reducible assumption) | (with_reducible refine Below.alloc ?_ ?_ _) | (with_reducible refine Below.setCell ?_ ?_ _) | (with_reducible refine Below.drew ?_) | (with_reducible refine below_dn ?_ _) | (with_reducible refine Below.trans ?_ (Below.mono (by assumption) ?_)) | go_size))⟩
    all_goals first | (intro i; simp [*, go_sem, ↓IntWalk.iteOmega]; done) | (simp [*, go_sem, ↓IntWalk.iteOmega]; done)
  clear hbwT hcwT hfwT hzwT
  intro hN
  (try simp only [List.append])
  simp only [List.take_succ_cons, List.take_zero, List.drop_succ_cons, List.drop_zero]
  repeat (first
    | go_big_quiet_skip
    | (go_big_quiet_want
       first
         | ((first | (refine quiet_load_Tn rfl rfl (fun w' hC => by obtain ⟨k0, k1, k2, k3, k4, k5, k6, k7, k8, k9, k10, k11, k12, k13, k14, k15, k16⟩ := hC; exact ⟨by assumption, by assumption⟩) ?_) | (refine quiet_load_Sp rfl rfl (fun w' hC => by obtain ⟨k0, k1, k2, k3, k4, k5, k6, k7, k8, k9, k10, k11, k12, k13, k14, k15, k16⟩ := hC; exact ⟨by assumption, by assumption⟩) ?_) | (refine quiet_load_Fa rfl rfl (fun w' hC => by obtain ⟨k0, k1, k2, k3, k4, k5, k6, k7, k8, k9, k10, k11, k12, k13, k14, k15, k16⟩ := hC; exact ⟨by assumption, by assumption, by assumption, by assumption⟩) ?_) | (refine quiet_load_W rfl rfl (fun w' hC => by obtain ⟨k0, k1, k2, k3, k4, k5, k6, k7, k8, k9, k10, k11, k12, k13, k14, k15, k16⟩ := hC; assumption) ?_))
            simp only [Act.put, List.setIfInBounds_toArray, List.set_cons_succ, List.set_cons_zero]
            go_big_quiet_on)
         | (go_big_quiet_op
            first
              | go_big_quiet_on
              | (apply Exists.intro
                 refine ⟨fun w' hC => ?_, ?_⟩
                 · (first | (go_at_call 89; (with_reducible refine (rsdo_c' _ _ _ _ _ _).mono ?_); rintro e w1 ⟨rfl, hb1⟩) | (go_at_call 60; (with_reducible refine (rfsettled_c' _ _ _ _ _).mono ?_); rintro e w1 ⟨rfl, hb1⟩))
                   (try simp only [Tn.eta, Sp.eta, Fa.eta])
                   exact ⟨rfl, by first | exact hC | exact WideC_keep _ _ hC hb1⟩
                 go_big_quiet_on))))
  refine wpQuiet_nil ?_
  intro w9 hC
  obtain ⟨k0, k1, k2, k3, k4, k5, k6, k7, k8, k9, k10, k11, k12, k13, k14, k15, k16⟩ := hC
  have z0 := cell_lt k0
  have z4 := cell_lt k4
  have z8 := cell_lt k8
  have z12 := cell_lt k12
  go_wp2
  refine bodyPost_ret ?_ rfl ⟨rfl, (by repeat' (first | (with_reducible assumption) | (with_reducible refine Below.setCell ?_ ?_ _) | go_size))⟩
  simp only [results, Try.results43]; simp [*, go_sem, ↓IntWalk.iteOmega]; try (first | rfl | exact ⟨rfl, rfl⟩)

set_option maxHeartbeats 2000000 in
theorem wd_sub_s0 (nw : Bool) (x y : Fa) (t : Tn) (q : BitVec 64) (hx : Fa.known x = none) (hy : Fa.known y = some q) (hd : Tn.do_ 16 x.t (y).t = none) (w : World) : Calls Try.prog 43 #[.int .u8 16, .bool nw, .int .i16 0, .agg #[.int .u64 (N x.t.v), .int .u64 (N x.t.m), .int .u64 (N x.s.lo), .int .u64 (N x.s.hi)], .agg #[.int .u64 (N y.t.v), .int .u64 (N y.t.m), .int .u64 (N y.s.lo), .int .u64 (N y.s.hi)]] w fun e w' => e = .returned (.agg #[.int .u64 (N (Fa.makes 16 (!nw) 0 x y).t.v), .int .u64 (N (Fa.makes 16 (!nw) 0 x y).t.m), .int .u64 (N (Fa.makes 16 (!nw) 0 x y).s.lo), .int .u64 (N (Fa.makes 16 (!nw) 0 x y).s.hi)]) ∧ Below w.heap.size w w' := by
  rw [Fa.mk_sub (.inl hx), Fa.plain_none hd]
  go_enter Try.func43, Try.ntmps43
  go_wp2_with (first | (go_at_call 21; (with_reducible refine (rfknown_c' _ _ _ _ _).mono ?_); rintro e w1 ⟨rfl, hb1⟩; obtain ⟨hc1, hf1, hz1⟩ := bcell hb1; (try simp only [World.size_alloc, World.size_setCell, World.size_drew] at hc1 hf1 hz1)))
  go_wp2_with fail
  refine (r_do_c' _ _ _ _ _ _).mono ?_
  rintro e wT ⟨rfl, hbwT⟩
  obtain ⟨hcwT, hfwT, hzwT⟩ := bcell hbwT
  (try simp only [World.size_alloc, World.size_setCell, World.size_drew] at hcwT hfwT hzwT)
  go_wp2_with (first | (go_at_call 26; (with_reducible refine (rfany_c _).mono ?_); rintro e w1 ⟨rfl, hb1⟩; obtain ⟨hc1, hf1, hz1⟩ := bcell hb1; (try simp only [World.size_alloc, World.size_setCell, World.size_drew] at hc1 hf1 hz1)))
  refine wp_region_class_tail (WideC x y Fa.zero Fa.any.t w wT) 8 (by kernel_rfl) (by kernel_rfl) ?_ ?_
  · refine ⟨?_, ?_, ?_, ?_, ?_, ?_, ?_, ?_, ?_, ?_, ?_, ?_, ?_, ?_, ?_, ?_, (by repeat' (first | (with_reducible exact Below.refl _ _) | (with_reducible assumption) | (with_reducible refine Below.alloc ?_ ?_ _) | (with_reducible refine Below.setCell ?_ ?_ _) | (with_reducible refine Below.drew ?_) | (with_reducible refine below_dn ?_ _) | (with_reducible refine Below.trans ?_ (Below.mono (by assumption) ?_)) | go_size))⟩
    all_goals first | (intro i; simp [*, go_sem, ↓IntWalk.iteOmega]; done) | (simp [*, go_sem, ↓IntWalk.iteOmega]; done)
  clear hbwT hcwT hfwT hzwT
  intro hN
  (try simp only [List.append])
  simp only [List.take_succ_cons, List.take_zero, List.drop_succ_cons, List.drop_zero]
  repeat (first
    | go_big_quiet_skip
    | (go_big_quiet_want
       first
         | ((first | (refine quiet_load_Tn rfl rfl (fun w' hC => by obtain ⟨k0, k1, k2, k3, k4, k5, k6, k7, k8, k9, k10, k11, k12, k13, k14, k15, k16⟩ := hC; exact ⟨by assumption, by assumption⟩) ?_) | (refine quiet_load_Sp rfl rfl (fun w' hC => by obtain ⟨k0, k1, k2, k3, k4, k5, k6, k7, k8, k9, k10, k11, k12, k13, k14, k15, k16⟩ := hC; exact ⟨by assumption, by assumption⟩) ?_) | (refine quiet_load_Fa rfl rfl (fun w' hC => by obtain ⟨k0, k1, k2, k3, k4, k5, k6, k7, k8, k9, k10, k11, k12, k13, k14, k15, k16⟩ := hC; exact ⟨by assumption, by assumption, by assumption, by assumption⟩) ?_) | (refine quiet_load_W rfl rfl (fun w' hC => by obtain ⟨k0, k1, k2, k3, k4, k5, k6, k7, k8, k9, k10, k11, k12, k13, k14, k15, k16⟩ := hC; assumption) ?_))
            simp only [Act.put, List.setIfInBounds_toArray, List.set_cons_succ, List.set_cons_zero]
            go_big_quiet_on)
         | (go_big_quiet_op
            first
              | go_big_quiet_on
              | (apply Exists.intro
                 refine ⟨fun w' hC => ?_, ?_⟩
                 · (first | (go_at_call 89; (with_reducible refine (rsdo_c' _ _ _ _ _ _).mono ?_); rintro e w1 ⟨rfl, hb1⟩) | (go_at_call 60; (with_reducible refine (rfsettled_c' _ _ _ _ _).mono ?_); rintro e w1 ⟨rfl, hb1⟩))
                   (try simp only [Tn.eta, Sp.eta, Fa.eta])
                   exact ⟨rfl, by first | exact hC | exact WideC_keep _ _ hC hb1⟩
                 go_big_quiet_on))))
  refine wpQuiet_nil ?_
  intro w9 hC
  obtain ⟨k0, k1, k2, k3, k4, k5, k6, k7, k8, k9, k10, k11, k12, k13, k14, k15, k16⟩ := hC
  have z0 := cell_lt k0
  have z4 := cell_lt k4
  have z8 := cell_lt k8
  have z12 := cell_lt k12
  go_wp2
  refine bodyPost_ret ?_ rfl ⟨rfl, (by repeat' (first | (with_reducible assumption) | (with_reducible refine Below.setCell ?_ ?_ _) | go_size))⟩
  simp only [results, Try.results43]; simp [*, go_sem, ↓IntWalk.iteOmega]; try (first | rfl | exact ⟨rfl, rfl⟩)

set_option maxHeartbeats 2000000 in
theorem wd_sub_s1 (nw : Bool) (x y : Fa) (t : Tn) (q : BitVec 64) (hx : Fa.known x = none) (hy : Fa.known y = some q) (hd : Tn.do_ 16 x.t (y).t = some t) (w : World) : Calls Try.prog 43 #[.int .u8 16, .bool nw, .int .i16 0, .agg #[.int .u64 (N x.t.v), .int .u64 (N x.t.m), .int .u64 (N x.s.lo), .int .u64 (N x.s.hi)], .agg #[.int .u64 (N y.t.v), .int .u64 (N y.t.m), .int .u64 (N y.s.lo), .int .u64 (N y.s.hi)]] w fun e w' => e = .returned (.agg #[.int .u64 (N (Fa.makes 16 (!nw) 0 x y).t.v), .int .u64 (N (Fa.makes 16 (!nw) 0 x y).t.m), .int .u64 (N (Fa.makes 16 (!nw) 0 x y).s.lo), .int .u64 (N (Fa.makes 16 (!nw) 0 x y).s.hi)]) ∧ Below w.heap.size w w' := by
  rw [Fa.mk_sub (.inl hx), Fa.plain_some hd]
  go_enter Try.func43, Try.ntmps43
  go_wp2_with (first | (go_at_call 21; (with_reducible refine (rfknown_c' _ _ _ _ _).mono ?_); rintro e w1 ⟨rfl, hb1⟩; obtain ⟨hc1, hf1, hz1⟩ := bcell hb1; (try simp only [World.size_alloc, World.size_setCell, World.size_drew] at hc1 hf1 hz1)))
  go_wp2_with fail
  refine (r_do_c' _ _ _ _ _ _).mono ?_
  rintro e wT ⟨rfl, hbwT⟩
  obtain ⟨hcwT, hfwT, hzwT⟩ := bcell hbwT
  (try simp only [World.size_alloc, World.size_setCell, World.size_drew] at hcwT hfwT hzwT)
  go_wp2_with fail
  refine wp_region_class_tail (WideC x y Fa.zero t w wT) 8 (by kernel_rfl) (by kernel_rfl) ?_ ?_
  · refine ⟨?_, ?_, ?_, ?_, ?_, ?_, ?_, ?_, ?_, ?_, ?_, ?_, ?_, ?_, ?_, ?_, (by repeat' (first | (with_reducible exact Below.refl _ _) | (with_reducible assumption) | (with_reducible refine Below.alloc ?_ ?_ _) | (with_reducible refine Below.setCell ?_ ?_ _) | (with_reducible refine Below.drew ?_) | (with_reducible refine below_dn ?_ _) | (with_reducible refine Below.trans ?_ (Below.mono (by assumption) ?_)) | go_size))⟩
    all_goals first | (intro i; simp [*, go_sem, ↓IntWalk.iteOmega]; done) | (simp [*, go_sem, ↓IntWalk.iteOmega]; done)
  clear hbwT hcwT hfwT hzwT
  intro hN
  (try simp only [List.append])
  simp only [List.take_succ_cons, List.take_zero, List.drop_succ_cons, List.drop_zero]
  repeat (first
    | go_big_quiet_skip
    | (go_big_quiet_want
       first
         | ((first | (refine quiet_load_Tn rfl rfl (fun w' hC => by obtain ⟨k0, k1, k2, k3, k4, k5, k6, k7, k8, k9, k10, k11, k12, k13, k14, k15, k16⟩ := hC; exact ⟨by assumption, by assumption⟩) ?_) | (refine quiet_load_Sp rfl rfl (fun w' hC => by obtain ⟨k0, k1, k2, k3, k4, k5, k6, k7, k8, k9, k10, k11, k12, k13, k14, k15, k16⟩ := hC; exact ⟨by assumption, by assumption⟩) ?_) | (refine quiet_load_Fa rfl rfl (fun w' hC => by obtain ⟨k0, k1, k2, k3, k4, k5, k6, k7, k8, k9, k10, k11, k12, k13, k14, k15, k16⟩ := hC; exact ⟨by assumption, by assumption, by assumption, by assumption⟩) ?_) | (refine quiet_load_W rfl rfl (fun w' hC => by obtain ⟨k0, k1, k2, k3, k4, k5, k6, k7, k8, k9, k10, k11, k12, k13, k14, k15, k16⟩ := hC; assumption) ?_))
            simp only [Act.put, List.setIfInBounds_toArray, List.set_cons_succ, List.set_cons_zero]
            go_big_quiet_on)
         | (go_big_quiet_op
            first
              | go_big_quiet_on
              | (apply Exists.intro
                 refine ⟨fun w' hC => ?_, ?_⟩
                 · (first | (go_at_call 89; (with_reducible refine (rsdo_c' _ _ _ _ _ _).mono ?_); rintro e w1 ⟨rfl, hb1⟩) | (go_at_call 60; (with_reducible refine (rfsettled_c' _ _ _ _ _).mono ?_); rintro e w1 ⟨rfl, hb1⟩))
                   (try simp only [Tn.eta, Sp.eta, Fa.eta])
                   exact ⟨rfl, by first | exact hC | exact WideC_keep _ _ hC hb1⟩
                 go_big_quiet_on))))
  refine wpQuiet_nil ?_
  intro w9 hC
  obtain ⟨k0, k1, k2, k3, k4, k5, k6, k7, k8, k9, k10, k11, k12, k13, k14, k15, k16⟩ := hC
  have z0 := cell_lt k0
  have z4 := cell_lt k4
  have z8 := cell_lt k8
  have z12 := cell_lt k12
  go_wp2
  refine bodyPost_ret ?_ rfl ⟨rfl, (by repeat' (first | (with_reducible assumption) | (with_reducible refine Below.setCell ?_ ?_ _) | go_size))⟩
  simp only [results, Try.results43]; simp [*, go_sem, ↓IntWalk.iteOmega]; try (first | rfl | exact ⟨rfl, rfl⟩)

set_option maxHeartbeats 2000000 in
theorem wd_mul_s0 (nw : Bool) (x y : Fa) (t : Tn) (q : BitVec 64) (hx : Fa.known x = none) (hy : Fa.known y = some q) (hd : Tn.do_ 32 x.t (y).t = none) (w : World) : Calls Try.prog 43 #[.int .u8 32, .bool nw, .int .i16 0, .agg #[.int .u64 (N x.t.v), .int .u64 (N x.t.m), .int .u64 (N x.s.lo), .int .u64 (N x.s.hi)], .agg #[.int .u64 (N y.t.v), .int .u64 (N y.t.m), .int .u64 (N y.s.lo), .int .u64 (N y.s.hi)]] w fun e w' => e = .returned (.agg #[.int .u64 (N (Fa.makes 32 (!nw) 0 x y).t.v), .int .u64 (N (Fa.makes 32 (!nw) 0 x y).t.m), .int .u64 (N (Fa.makes 32 (!nw) 0 x y).s.lo), .int .u64 (N (Fa.makes 32 (!nw) 0 x y).s.hi)]) ∧ Below w.heap.size w w' := by
  rw [Fa.mk_mul (.inl hx), Fa.plain_none hd]
  go_enter Try.func43, Try.ntmps43
  go_wp2_with (first | (go_at_call 21; (with_reducible refine (rfknown_c' _ _ _ _ _).mono ?_); rintro e w1 ⟨rfl, hb1⟩; obtain ⟨hc1, hf1, hz1⟩ := bcell hb1; (try simp only [World.size_alloc, World.size_setCell, World.size_drew] at hc1 hf1 hz1)))
  go_wp2_with fail
  refine (r_do_c' _ _ _ _ _ _).mono ?_
  rintro e wT ⟨rfl, hbwT⟩
  obtain ⟨hcwT, hfwT, hzwT⟩ := bcell hbwT
  (try simp only [World.size_alloc, World.size_setCell, World.size_drew] at hcwT hfwT hzwT)
  go_wp2_with (first | (go_at_call 26; (with_reducible refine (rfany_c _).mono ?_); rintro e w1 ⟨rfl, hb1⟩; obtain ⟨hc1, hf1, hz1⟩ := bcell hb1; (try simp only [World.size_alloc, World.size_setCell, World.size_drew] at hc1 hf1 hz1)))
  refine wp_region_class_tail (WideC x y Fa.zero Fa.any.t w wT) 8 (by kernel_rfl) (by kernel_rfl) ?_ ?_
  · refine ⟨?_, ?_, ?_, ?_, ?_, ?_, ?_, ?_, ?_, ?_, ?_, ?_, ?_, ?_, ?_, ?_, (by repeat' (first | (with_reducible exact Below.refl _ _) | (with_reducible assumption) | (with_reducible refine Below.alloc ?_ ?_ _) | (with_reducible refine Below.setCell ?_ ?_ _) | (with_reducible refine Below.drew ?_) | (with_reducible refine below_dn ?_ _) | (with_reducible refine Below.trans ?_ (Below.mono (by assumption) ?_)) | go_size))⟩
    all_goals first | (intro i; simp [*, go_sem, ↓IntWalk.iteOmega]; done) | (simp [*, go_sem, ↓IntWalk.iteOmega]; done)
  clear hbwT hcwT hfwT hzwT
  intro hN
  (try simp only [List.append])
  simp only [List.take_succ_cons, List.take_zero, List.drop_succ_cons, List.drop_zero]
  repeat (first
    | go_big_quiet_skip
    | (go_big_quiet_want
       first
         | ((first | (refine quiet_load_Tn rfl rfl (fun w' hC => by obtain ⟨k0, k1, k2, k3, k4, k5, k6, k7, k8, k9, k10, k11, k12, k13, k14, k15, k16⟩ := hC; exact ⟨by assumption, by assumption⟩) ?_) | (refine quiet_load_Sp rfl rfl (fun w' hC => by obtain ⟨k0, k1, k2, k3, k4, k5, k6, k7, k8, k9, k10, k11, k12, k13, k14, k15, k16⟩ := hC; exact ⟨by assumption, by assumption⟩) ?_) | (refine quiet_load_Fa rfl rfl (fun w' hC => by obtain ⟨k0, k1, k2, k3, k4, k5, k6, k7, k8, k9, k10, k11, k12, k13, k14, k15, k16⟩ := hC; exact ⟨by assumption, by assumption, by assumption, by assumption⟩) ?_) | (refine quiet_load_W rfl rfl (fun w' hC => by obtain ⟨k0, k1, k2, k3, k4, k5, k6, k7, k8, k9, k10, k11, k12, k13, k14, k15, k16⟩ := hC; assumption) ?_))
            simp only [Act.put, List.setIfInBounds_toArray, List.set_cons_succ, List.set_cons_zero]
            go_big_quiet_on)
         | (go_big_quiet_op
            first
              | go_big_quiet_on
              | (apply Exists.intro
                 refine ⟨fun w' hC => ?_, ?_⟩
                 · (first | (go_at_call 89; (with_reducible refine (rsdo_c' _ _ _ _ _ _).mono ?_); rintro e w1 ⟨rfl, hb1⟩) | (go_at_call 60; (with_reducible refine (rfsettled_c' _ _ _ _ _).mono ?_); rintro e w1 ⟨rfl, hb1⟩))
                   (try simp only [Tn.eta, Sp.eta, Fa.eta])
                   exact ⟨rfl, by first | exact hC | exact WideC_keep _ _ hC hb1⟩
                 go_big_quiet_on))))
  refine wpQuiet_nil ?_
  intro w9 hC
  obtain ⟨k0, k1, k2, k3, k4, k5, k6, k7, k8, k9, k10, k11, k12, k13, k14, k15, k16⟩ := hC
  have z0 := cell_lt k0
  have z4 := cell_lt k4
  have z8 := cell_lt k8
  have z12 := cell_lt k12
  go_wp2
  refine bodyPost_ret ?_ rfl ⟨rfl, (by repeat' (first | (with_reducible assumption) | (with_reducible refine Below.setCell ?_ ?_ _) | go_size))⟩
  simp only [results, Try.results43]; simp [*, go_sem, ↓IntWalk.iteOmega]; try (first | rfl | exact ⟨rfl, rfl⟩)

set_option maxHeartbeats 2000000 in
theorem wd_mul_s1 (nw : Bool) (x y : Fa) (t : Tn) (q : BitVec 64) (hx : Fa.known x = none) (hy : Fa.known y = some q) (hd : Tn.do_ 32 x.t (y).t = some t) (w : World) : Calls Try.prog 43 #[.int .u8 32, .bool nw, .int .i16 0, .agg #[.int .u64 (N x.t.v), .int .u64 (N x.t.m), .int .u64 (N x.s.lo), .int .u64 (N x.s.hi)], .agg #[.int .u64 (N y.t.v), .int .u64 (N y.t.m), .int .u64 (N y.s.lo), .int .u64 (N y.s.hi)]] w fun e w' => e = .returned (.agg #[.int .u64 (N (Fa.makes 32 (!nw) 0 x y).t.v), .int .u64 (N (Fa.makes 32 (!nw) 0 x y).t.m), .int .u64 (N (Fa.makes 32 (!nw) 0 x y).s.lo), .int .u64 (N (Fa.makes 32 (!nw) 0 x y).s.hi)]) ∧ Below w.heap.size w w' := by
  rw [Fa.mk_mul (.inl hx), Fa.plain_some hd]
  go_enter Try.func43, Try.ntmps43
  go_wp2_with (first | (go_at_call 21; (with_reducible refine (rfknown_c' _ _ _ _ _).mono ?_); rintro e w1 ⟨rfl, hb1⟩; obtain ⟨hc1, hf1, hz1⟩ := bcell hb1; (try simp only [World.size_alloc, World.size_setCell, World.size_drew] at hc1 hf1 hz1)))
  go_wp2_with fail
  refine (r_do_c' _ _ _ _ _ _).mono ?_
  rintro e wT ⟨rfl, hbwT⟩
  obtain ⟨hcwT, hfwT, hzwT⟩ := bcell hbwT
  (try simp only [World.size_alloc, World.size_setCell, World.size_drew] at hcwT hfwT hzwT)
  go_wp2_with fail
  refine wp_region_class_tail (WideC x y Fa.zero t w wT) 8 (by kernel_rfl) (by kernel_rfl) ?_ ?_
  · refine ⟨?_, ?_, ?_, ?_, ?_, ?_, ?_, ?_, ?_, ?_, ?_, ?_, ?_, ?_, ?_, ?_, (by repeat' (first | (with_reducible exact Below.refl _ _) | (with_reducible assumption) | (with_reducible refine Below.alloc ?_ ?_ _) | (with_reducible refine Below.setCell ?_ ?_ _) | (with_reducible refine Below.drew ?_) | (with_reducible refine below_dn ?_ _) | (with_reducible refine Below.trans ?_ (Below.mono (by assumption) ?_)) | go_size))⟩
    all_goals first | (intro i; simp [*, go_sem, ↓IntWalk.iteOmega]; done) | (simp [*, go_sem, ↓IntWalk.iteOmega]; done)
  clear hbwT hcwT hfwT hzwT
  intro hN
  (try simp only [List.append])
  simp only [List.take_succ_cons, List.take_zero, List.drop_succ_cons, List.drop_zero]
  repeat (first
    | go_big_quiet_skip
    | (go_big_quiet_want
       first
         | ((first | (refine quiet_load_Tn rfl rfl (fun w' hC => by obtain ⟨k0, k1, k2, k3, k4, k5, k6, k7, k8, k9, k10, k11, k12, k13, k14, k15, k16⟩ := hC; exact ⟨by assumption, by assumption⟩) ?_) | (refine quiet_load_Sp rfl rfl (fun w' hC => by obtain ⟨k0, k1, k2, k3, k4, k5, k6, k7, k8, k9, k10, k11, k12, k13, k14, k15, k16⟩ := hC; exact ⟨by assumption, by assumption⟩) ?_) | (refine quiet_load_Fa rfl rfl (fun w' hC => by obtain ⟨k0, k1, k2, k3, k4, k5, k6, k7, k8, k9, k10, k11, k12, k13, k14, k15, k16⟩ := hC; exact ⟨by assumption, by assumption, by assumption, by assumption⟩) ?_) | (refine quiet_load_W rfl rfl (fun w' hC => by obtain ⟨k0, k1, k2, k3, k4, k5, k6, k7, k8, k9, k10, k11, k12, k13, k14, k15, k16⟩ := hC; assumption) ?_))
            simp only [Act.put, List.setIfInBounds_toArray, List.set_cons_succ, List.set_cons_zero]
            go_big_quiet_on)
         | (go_big_quiet_op
            first
              | go_big_quiet_on
              | (apply Exists.intro
                 refine ⟨fun w' hC => ?_, ?_⟩
                 · (first | (go_at_call 89; (with_reducible refine (rsdo_c' _ _ _ _ _ _).mono ?_); rintro e w1 ⟨rfl, hb1⟩) | (go_at_call 60; (with_reducible refine (rfsettled_c' _ _ _ _ _).mono ?_); rintro e w1 ⟨rfl, hb1⟩))
                   (try simp only [Tn.eta, Sp.eta, Fa.eta])
                   exact ⟨rfl, by first | exact hC | exact WideC_keep _ _ hC hb1⟩
                 go_big_quiet_on))))
  refine wpQuiet_nil ?_
  intro w9 hC
  obtain ⟨k0, k1, k2, k3, k4, k5, k6, k7, k8, k9, k10, k11, k12, k13, k14, k15, k16⟩ := hC
  have z0 := cell_lt k0
  have z4 := cell_lt k4
  have z8 := cell_lt k8
  have z12 := cell_lt k12
  go_wp2
  refine bodyPost_ret ?_ rfl ⟨rfl, (by repeat' (first | (with_reducible assumption) | (with_reducible refine Below.setCell ?_ ?_ _) | go_size))⟩
  simp only [results, Try.results43]; simp [*, go_sem, ↓IntWalk.iteOmega]; try (first | rfl | exact ⟨rfl, rfl⟩)

set_option maxHeartbeats 2000000 in
theorem wd_and_s0 (nw : Bool) (x y : Fa) (t : Tn) (q : BitVec 64) (hx : Fa.known x = none) (hy : Fa.known y = some q) (hd : Tn.do_ 80 x.t (y).t = none) (w : World) : Calls Try.prog 43 #[.int .u8 80, .bool nw, .int .i16 0, .agg #[.int .u64 (N x.t.v), .int .u64 (N x.t.m), .int .u64 (N x.s.lo), .int .u64 (N x.s.hi)], .agg #[.int .u64 (N y.t.v), .int .u64 (N y.t.m), .int .u64 (N y.s.lo), .int .u64 (N y.s.hi)]] w fun e w' => e = .returned (.agg #[.int .u64 (N (Fa.makes 80 (!nw) 0 x y).t.v), .int .u64 (N (Fa.makes 80 (!nw) 0 x y).t.m), .int .u64 (N (Fa.makes 80 (!nw) 0 x y).s.lo), .int .u64 (N (Fa.makes 80 (!nw) 0 x y).s.hi)]) ∧ Below w.heap.size w w' := by
  rw [Fa.mk_and (.inl hx), Fa.plain_none hd]
  go_enter Try.func43, Try.ntmps43
  go_wp2_with (first | (go_at_call 21; (with_reducible refine (rfknown_c' _ _ _ _ _).mono ?_); rintro e w1 ⟨rfl, hb1⟩; obtain ⟨hc1, hf1, hz1⟩ := bcell hb1; (try simp only [World.size_alloc, World.size_setCell, World.size_drew] at hc1 hf1 hz1)))
  go_wp2_with fail
  refine (r_do_c' _ _ _ _ _ _).mono ?_
  rintro e wT ⟨rfl, hbwT⟩
  obtain ⟨hcwT, hfwT, hzwT⟩ := bcell hbwT
  (try simp only [World.size_alloc, World.size_setCell, World.size_drew] at hcwT hfwT hzwT)
  go_wp2_with (first | (go_at_call 26; (with_reducible refine (rfany_c _).mono ?_); rintro e w1 ⟨rfl, hb1⟩; obtain ⟨hc1, hf1, hz1⟩ := bcell hb1; (try simp only [World.size_alloc, World.size_setCell, World.size_drew] at hc1 hf1 hz1)))
  refine wp_region_class_tail (WideC x y Fa.zero Fa.any.t w wT) 8 (by kernel_rfl) (by kernel_rfl) ?_ ?_
  · refine ⟨?_, ?_, ?_, ?_, ?_, ?_, ?_, ?_, ?_, ?_, ?_, ?_, ?_, ?_, ?_, ?_, (by repeat' (first | (with_reducible exact Below.refl _ _) | (with_reducible assumption) | (with_reducible refine Below.alloc ?_ ?_ _) | (with_reducible refine Below.setCell ?_ ?_ _) | (with_reducible refine Below.drew ?_) | (with_reducible refine below_dn ?_ _) | (with_reducible refine Below.trans ?_ (Below.mono (by assumption) ?_)) | go_size))⟩
    all_goals first | (intro i; simp [*, go_sem, ↓IntWalk.iteOmega]; done) | (simp [*, go_sem, ↓IntWalk.iteOmega]; done)
  clear hbwT hcwT hfwT hzwT
  intro hN
  (try simp only [List.append])
  simp only [List.take_succ_cons, List.take_zero, List.drop_succ_cons, List.drop_zero]
  repeat (first
    | go_big_quiet_skip
    | (go_big_quiet_want
       first
         | ((first | (refine quiet_load_Tn rfl rfl (fun w' hC => by obtain ⟨k0, k1, k2, k3, k4, k5, k6, k7, k8, k9, k10, k11, k12, k13, k14, k15, k16⟩ := hC; exact ⟨by assumption, by assumption⟩) ?_) | (refine quiet_load_Sp rfl rfl (fun w' hC => by obtain ⟨k0, k1, k2, k3, k4, k5, k6, k7, k8, k9, k10, k11, k12, k13, k14, k15, k16⟩ := hC; exact ⟨by assumption, by assumption⟩) ?_) | (refine quiet_load_Fa rfl rfl (fun w' hC => by obtain ⟨k0, k1, k2, k3, k4, k5, k6, k7, k8, k9, k10, k11, k12, k13, k14, k15, k16⟩ := hC; exact ⟨by assumption, by assumption, by assumption, by assumption⟩) ?_) | (refine quiet_load_W rfl rfl (fun w' hC => by obtain ⟨k0, k1, k2, k3, k4, k5, k6, k7, k8, k9, k10, k11, k12, k13, k14, k15, k16⟩ := hC; assumption) ?_))
            simp only [Act.put, List.setIfInBounds_toArray, List.set_cons_succ, List.set_cons_zero]
            go_big_quiet_on)
         | (go_big_quiet_op
            first
              | go_big_quiet_on
              | (apply Exists.intro
                 refine ⟨fun w' hC => ?_, ?_⟩
                 · (first | (go_at_call 89; (with_reducible refine (rsdo_c' _ _ _ _ _ _).mono ?_); rintro e w1 ⟨rfl, hb1⟩) | (go_at_call 60; (with_reducible refine (rfsettled_c' _ _ _ _ _).mono ?_); rintro e w1 ⟨rfl, hb1⟩))
                   (try simp only [Tn.eta, Sp.eta, Fa.eta])
                   exact ⟨rfl, by first | exact hC | exact WideC_keep _ _ hC hb1⟩
                 go_big_quiet_on))))
  refine wpQuiet_nil ?_
  intro w9 hC
  obtain ⟨k0, k1, k2, k3, k4, k5, k6, k7, k8, k9, k10, k11, k12, k13, k14, k15, k16⟩ := hC
  have z0 := cell_lt k0
  have z4 := cell_lt k4
  have z8 := cell_lt k8
  have z12 := cell_lt k12
  go_wp2
  refine bodyPost_ret ?_ rfl ⟨rfl, (by repeat' (first | (with_reducible assumption) | (with_reducible refine Below.setCell ?_ ?_ _) | go_size))⟩
  simp only [results, Try.results43]; simp [*, go_sem, ↓IntWalk.iteOmega]; try (first | rfl | exact ⟨rfl, rfl⟩)

set_option maxHeartbeats 2000000 in
theorem wd_and_s1 (nw : Bool) (x y : Fa) (t : Tn) (q : BitVec 64) (hx : Fa.known x = none) (hy : Fa.known y = some q) (hd : Tn.do_ 80 x.t (y).t = some t) (w : World) : Calls Try.prog 43 #[.int .u8 80, .bool nw, .int .i16 0, .agg #[.int .u64 (N x.t.v), .int .u64 (N x.t.m), .int .u64 (N x.s.lo), .int .u64 (N x.s.hi)], .agg #[.int .u64 (N y.t.v), .int .u64 (N y.t.m), .int .u64 (N y.s.lo), .int .u64 (N y.s.hi)]] w fun e w' => e = .returned (.agg #[.int .u64 (N (Fa.makes 80 (!nw) 0 x y).t.v), .int .u64 (N (Fa.makes 80 (!nw) 0 x y).t.m), .int .u64 (N (Fa.makes 80 (!nw) 0 x y).s.lo), .int .u64 (N (Fa.makes 80 (!nw) 0 x y).s.hi)]) ∧ Below w.heap.size w w' := by
  rw [Fa.mk_and (.inl hx), Fa.plain_some hd]
  go_enter Try.func43, Try.ntmps43
  go_wp2_with (first | (go_at_call 21; (with_reducible refine (rfknown_c' _ _ _ _ _).mono ?_); rintro e w1 ⟨rfl, hb1⟩; obtain ⟨hc1, hf1, hz1⟩ := bcell hb1; (try simp only [World.size_alloc, World.size_setCell, World.size_drew] at hc1 hf1 hz1)))
  go_wp2_with fail
  refine (r_do_c' _ _ _ _ _ _).mono ?_
  rintro e wT ⟨rfl, hbwT⟩
  obtain ⟨hcwT, hfwT, hzwT⟩ := bcell hbwT
  (try simp only [World.size_alloc, World.size_setCell, World.size_drew] at hcwT hfwT hzwT)
  go_wp2_with fail
  refine wp_region_class_tail (WideC x y Fa.zero t w wT) 8 (by kernel_rfl) (by kernel_rfl) ?_ ?_
  · refine ⟨?_, ?_, ?_, ?_, ?_, ?_, ?_, ?_, ?_, ?_, ?_, ?_, ?_, ?_, ?_, ?_, (by repeat' (first | (with_reducible exact Below.refl _ _) | (with_reducible assumption) | (with_reducible refine Below.alloc ?_ ?_ _) | (with_reducible refine Below.setCell ?_ ?_ _) | (with_reducible refine Below.drew ?_) | (with_reducible refine below_dn ?_ _) | (with_reducible refine Below.trans ?_ (Below.mono (by assumption) ?_)) | go_size))⟩
    all_goals first | (intro i; simp [*, go_sem, ↓IntWalk.iteOmega]; done) | (simp [*, go_sem, ↓IntWalk.iteOmega]; done)
  clear hbwT hcwT hfwT hzwT
  intro hN
  (try simp only [List.append])
  simp only [List.take_succ_cons, List.take_zero, List.drop_succ_cons, List.drop_zero]
  repeat (first
    | go_big_quiet_skip
    | (go_big_quiet_want
       first
         | ((first | (refine quiet_load_Tn rfl rfl (fun w' hC => by obtain ⟨k0, k1, k2, k3, k4, k5, k6, k7, k8, k9, k10, k11, k12, k13, k14, k15, k16⟩ := hC; exact ⟨by assumption, by assumption⟩) ?_) | (refine quiet_load_Sp rfl rfl (fun w' hC => by obtain ⟨k0, k1, k2, k3, k4, k5, k6, k7, k8, k9, k10, k11, k12, k13, k14, k15, k16⟩ := hC; exact ⟨by assumption, by assumption⟩) ?_) | (refine quiet_load_Fa rfl rfl (fun w' hC => by obtain ⟨k0, k1, k2, k3, k4, k5, k6, k7, k8, k9, k10, k11, k12, k13, k14, k15, k16⟩ := hC; exact ⟨by assumption, by assumption, by assumption, by assumption⟩) ?_) | (refine quiet_load_W rfl rfl (fun w' hC => by obtain ⟨k0, k1, k2, k3, k4, k5, k6, k7, k8, k9, k10, k11, k12, k13, k14, k15, k16⟩ := hC; assumption) ?_))
            simp only [Act.put, List.setIfInBounds_toArray, List.set_cons_succ, List.set_cons_zero]
            go_big_quiet_on)
         | (go_big_quiet_op
            first
              | go_big_quiet_on
              | (apply Exists.intro
                 refine ⟨fun w' hC => ?_, ?_⟩
                 · (first | (go_at_call 89; (with_reducible refine (rsdo_c' _ _ _ _ _ _).mono ?_); rintro e w1 ⟨rfl, hb1⟩) | (go_at_call 60; (with_reducible refine (rfsettled_c' _ _ _ _ _).mono ?_); rintro e w1 ⟨rfl, hb1⟩))
                   (try simp only [Tn.eta, Sp.eta, Fa.eta])
                   exact ⟨rfl, by first | exact hC | exact WideC_keep _ _ hC hb1⟩
                 go_big_quiet_on))))
  refine wpQuiet_nil ?_
  intro w9 hC
  obtain ⟨k0, k1, k2, k3, k4, k5, k6, k7, k8, k9, k10, k11, k12, k13, k14, k15, k16⟩ := hC
  have z0 := cell_lt k0
  have z4 := cell_lt k4
  have z8 := cell_lt k8
  have z12 := cell_lt k12
  go_wp2
  refine bodyPost_ret ?_ rfl ⟨rfl, (by repeat' (first | (with_reducible assumption) | (with_reducible refine Below.setCell ?_ ?_ _) | go_size))⟩
  simp only [results, Try.results43]; simp [*, go_sem, ↓IntWalk.iteOmega]; try (first | rfl | exact ⟨rfl, rfl⟩)

set_option maxHeartbeats 2000000 in
theorem wd_or_s0 (nw : Bool) (x y : Fa) (t : Tn) (q : BitVec 64) (hx : Fa.known x = none) (hy : Fa.known y = some q) (hd : Tn.do_ 64 x.t (y).t = none) (w : World) : Calls Try.prog 43 #[.int .u8 64, .bool nw, .int .i16 0, .agg #[.int .u64 (N x.t.v), .int .u64 (N x.t.m), .int .u64 (N x.s.lo), .int .u64 (N x.s.hi)], .agg #[.int .u64 (N y.t.v), .int .u64 (N y.t.m), .int .u64 (N y.s.lo), .int .u64 (N y.s.hi)]] w fun e w' => e = .returned (.agg #[.int .u64 (N (Fa.makes 64 (!nw) 0 x y).t.v), .int .u64 (N (Fa.makes 64 (!nw) 0 x y).t.m), .int .u64 (N (Fa.makes 64 (!nw) 0 x y).s.lo), .int .u64 (N (Fa.makes 64 (!nw) 0 x y).s.hi)]) ∧ Below w.heap.size w w' := by
  rw [Fa.mk_or (.inl hx), Fa.plain_none hd]
  go_enter Try.func43, Try.ntmps43
  go_wp2_with (first | (go_at_call 21; (with_reducible refine (rfknown_c' _ _ _ _ _).mono ?_); rintro e w1 ⟨rfl, hb1⟩; obtain ⟨hc1, hf1, hz1⟩ := bcell hb1; (try simp only [World.size_alloc, World.size_setCell, World.size_drew] at hc1 hf1 hz1)))
  go_wp2_with fail
  refine (r_do_c' _ _ _ _ _ _).mono ?_
  rintro e wT ⟨rfl, hbwT⟩
  obtain ⟨hcwT, hfwT, hzwT⟩ := bcell hbwT
  (try simp only [World.size_alloc, World.size_setCell, World.size_drew] at hcwT hfwT hzwT)
  go_wp2_with (first | (go_at_call 26; (with_reducible refine (rfany_c _).mono ?_); rintro e w1 ⟨rfl, hb1⟩; obtain ⟨hc1, hf1, hz1⟩ := bcell hb1; (try simp only [World.size_alloc, World.size_setCell, World.size_drew] at hc1 hf1 hz1)))
  refine wp_region_class_tail (WideC x y Fa.zero Fa.any.t w wT) 8 (by kernel_rfl) (by kernel_rfl) ?_ ?_
  · refine ⟨?_, ?_, ?_, ?_, ?_, ?_, ?_, ?_, ?_, ?_, ?_, ?_, ?_, ?_, ?_, ?_, (by repeat' (first | (with_reducible exact Below.refl _ _) | (with_reducible assumption) | (with_reducible refine Below.alloc ?_ ?_ _) | (with_reducible refine Below.setCell ?_ ?_ _) | (with_reducible refine Below.drew ?_) | (with_reducible refine below_dn ?_ _) | (with_reducible refine Below.trans ?_ (Below.mono (by assumption) ?_)) | go_size))⟩
    all_goals first | (intro i; simp [*, go_sem, ↓IntWalk.iteOmega]; done) | (simp [*, go_sem, ↓IntWalk.iteOmega]; done)
  clear hbwT hcwT hfwT hzwT
  intro hN
  (try simp only [List.append])
  simp only [List.take_succ_cons, List.take_zero, List.drop_succ_cons, List.drop_zero]
  repeat (first
    | go_big_quiet_skip
    | (go_big_quiet_want
       first
         | ((first | (refine quiet_load_Tn rfl rfl (fun w' hC => by obtain ⟨k0, k1, k2, k3, k4, k5, k6, k7, k8, k9, k10, k11, k12, k13, k14, k15, k16⟩ := hC; exact ⟨by assumption, by assumption⟩) ?_) | (refine quiet_load_Sp rfl rfl (fun w' hC => by obtain ⟨k0, k1, k2, k3, k4, k5, k6, k7, k8, k9, k10, k11, k12, k13, k14, k15, k16⟩ := hC; exact ⟨by assumption, by assumption⟩) ?_) | (refine quiet_load_Fa rfl rfl (fun w' hC => by obtain ⟨k0, k1, k2, k3, k4, k5, k6, k7, k8, k9, k10, k11, k12, k13, k14, k15, k16⟩ := hC; exact ⟨by assumption, by assumption, by assumption, by assumption⟩) ?_) | (refine quiet_load_W rfl rfl (fun w' hC => by obtain ⟨k0, k1, k2, k3, k4, k5, k6, k7, k8, k9, k10, k11, k12, k13, k14, k15, k16⟩ := hC; assumption) ?_))
            simp only [Act.put, List.setIfInBounds_toArray, List.set_cons_succ, List.set_cons_zero]
            go_big_quiet_on)
         | (go_big_quiet_op
            first
              | go_big_quiet_on
              | (apply Exists.intro
                 refine ⟨fun w' hC => ?_, ?_⟩
                 · (first | (go_at_call 89; (with_reducible refine (rsdo_c' _ _ _ _ _ _).mono ?_); rintro e w1 ⟨rfl, hb1⟩) | (go_at_call 60; (with_reducible refine (rfsettled_c' _ _ _ _ _).mono ?_); rintro e w1 ⟨rfl, hb1⟩))
                   (try simp only [Tn.eta, Sp.eta, Fa.eta])
                   exact ⟨rfl, by first | exact hC | exact WideC_keep _ _ hC hb1⟩
                 go_big_quiet_on))))
  refine wpQuiet_nil ?_
  intro w9 hC
  obtain ⟨k0, k1, k2, k3, k4, k5, k6, k7, k8, k9, k10, k11, k12, k13, k14, k15, k16⟩ := hC
  have z0 := cell_lt k0
  have z4 := cell_lt k4
  have z8 := cell_lt k8
  have z12 := cell_lt k12
  go_wp2
  refine bodyPost_ret ?_ rfl ⟨rfl, (by repeat' (first | (with_reducible assumption) | (with_reducible refine Below.setCell ?_ ?_ _) | go_size))⟩
  simp only [results, Try.results43]; simp [*, go_sem, ↓IntWalk.iteOmega]; try (first | rfl | exact ⟨rfl, rfl⟩)

set_option maxHeartbeats 2000000 in
theorem wd_or_s1 (nw : Bool) (x y : Fa) (t : Tn) (q : BitVec 64) (hx : Fa.known x = none) (hy : Fa.known y = some q) (hd : Tn.do_ 64 x.t (y).t = some t) (w : World) : Calls Try.prog 43 #[.int .u8 64, .bool nw, .int .i16 0, .agg #[.int .u64 (N x.t.v), .int .u64 (N x.t.m), .int .u64 (N x.s.lo), .int .u64 (N x.s.hi)], .agg #[.int .u64 (N y.t.v), .int .u64 (N y.t.m), .int .u64 (N y.s.lo), .int .u64 (N y.s.hi)]] w fun e w' => e = .returned (.agg #[.int .u64 (N (Fa.makes 64 (!nw) 0 x y).t.v), .int .u64 (N (Fa.makes 64 (!nw) 0 x y).t.m), .int .u64 (N (Fa.makes 64 (!nw) 0 x y).s.lo), .int .u64 (N (Fa.makes 64 (!nw) 0 x y).s.hi)]) ∧ Below w.heap.size w w' := by
  rw [Fa.mk_or (.inl hx), Fa.plain_some hd]
  go_enter Try.func43, Try.ntmps43
  go_wp2_with (first | (go_at_call 21; (with_reducible refine (rfknown_c' _ _ _ _ _).mono ?_); rintro e w1 ⟨rfl, hb1⟩; obtain ⟨hc1, hf1, hz1⟩ := bcell hb1; (try simp only [World.size_alloc, World.size_setCell, World.size_drew] at hc1 hf1 hz1)))
  go_wp2_with fail
  refine (r_do_c' _ _ _ _ _ _).mono ?_
  rintro e wT ⟨rfl, hbwT⟩
  obtain ⟨hcwT, hfwT, hzwT⟩ := bcell hbwT
  (try simp only [World.size_alloc, World.size_setCell, World.size_drew] at hcwT hfwT hzwT)
  go_wp2_with fail
  refine wp_region_class_tail (WideC x y Fa.zero t w wT) 8 (by kernel_rfl) (by kernel_rfl) ?_ ?_
  · refine ⟨?_, ?_, ?_, ?_, ?_, ?_, ?_, ?_, ?_, ?_, ?_, ?_, ?_, ?_, ?_, ?_, (by repeat' (first | (with_reducible exact Below.refl _ _) | (with_reducible assumption) | (with_reducible refine Below.alloc ?_ ?_ _) | (with_reducible refine Below.setCell ?_ ?_ _) | (with_reducible refine Below.drew ?_) | (with_reducible refine below_dn ?_ _) | (with_reducible refine Below.trans ?_ (Below.mono (by assumption) ?_)) | go_size))⟩
    all_goals first | (intro i; simp [*, go_sem, ↓IntWalk.iteOmega]; done) | (simp [*, go_sem, ↓IntWalk.iteOmega]; done)
  clear hbwT hcwT hfwT hzwT
  intro hN
  (try simp only [List.append])
  simp only [List.take_succ_cons, List.take_zero, List.drop_succ_cons, List.drop_zero]
  repeat (first
    | go_big_quiet_skip
    | (go_big_quiet_want
       first
         | ((first | (refine quiet_load_Tn rfl rfl (fun w' hC => by obtain ⟨k0, k1, k2, k3, k4, k5, k6, k7, k8, k9, k10, k11, k12, k13, k14, k15, k16⟩ := hC; exact ⟨by assumption, by assumption⟩) ?_) | (refine quiet_load_Sp rfl rfl (fun w' hC => by obtain ⟨k0, k1, k2, k3, k4, k5, k6, k7, k8, k9, k10, k11, k12, k13, k14, k15, k16⟩ := hC; exact ⟨by assumption, by assumption⟩) ?_) | (refine quiet_load_Fa rfl rfl (fun w' hC => by obtain ⟨k0, k1, k2, k3, k4, k5, k6, k7, k8, k9, k10, k11, k12, k13, k14, k15, k16⟩ := hC; exact ⟨by assumption, by assumption, by assumption, by assumption⟩) ?_) | (refine quiet_load_W rfl rfl (fun w' hC => by obtain ⟨k0, k1, k2, k3, k4, k5, k6, k7, k8, k9, k10, k11, k12, k13, k14, k15, k16⟩ := hC; assumption) ?_))
            simp only [Act.put, List.setIfInBounds_toArray, List.set_cons_succ, List.set_cons_zero]
            go_big_quiet_on)
         | (go_big_quiet_op
            first
              | go_big_quiet_on
              | (apply Exists.intro
                 refine ⟨fun w' hC => ?_, ?_⟩
                 · (first | (go_at_call 89; (with_reducible refine (rsdo_c' _ _ _ _ _ _).mono ?_); rintro e w1 ⟨rfl, hb1⟩) | (go_at_call 60; (with_reducible refine (rfsettled_c' _ _ _ _ _).mono ?_); rintro e w1 ⟨rfl, hb1⟩))
                   (try simp only [Tn.eta, Sp.eta, Fa.eta])
                   exact ⟨rfl, by first | exact hC | exact WideC_keep _ _ hC hb1⟩
                 go_big_quiet_on))))
  refine wpQuiet_nil ?_
  intro w9 hC
  obtain ⟨k0, k1, k2, k3, k4, k5, k6, k7, k8, k9, k10, k11, k12, k13, k14, k15, k16⟩ := hC
  have z0 := cell_lt k0
  have z4 := cell_lt k4
  have z8 := cell_lt k8
  have z12 := cell_lt k12
  go_wp2
  refine bodyPost_ret ?_ rfl ⟨rfl, (by repeat' (first | (with_reducible assumption) | (with_reducible refine Below.setCell ?_ ?_ _) | go_size))⟩
  simp only [results, Try.results43]; simp [*, go_sem, ↓IntWalk.iteOmega]; try (first | rfl | exact ⟨rfl, rfl⟩)

set_option maxHeartbeats 2000000 in
theorem wd_xor_s0 (nw : Bool) (x y : Fa) (t : Tn) (q : BitVec 64) (hx : Fa.known x = none) (hy : Fa.known y = some q) (hd : Tn.do_ 160 x.t (y).t = none) (w : World) : Calls Try.prog 43 #[.int .u8 160, .bool nw, .int .i16 0, .agg #[.int .u64 (N x.t.v), .int .u64 (N x.t.m), .int .u64 (N x.s.lo), .int .u64 (N x.s.hi)], .agg #[.int .u64 (N y.t.v), .int .u64 (N y.t.m), .int .u64 (N y.s.lo), .int .u64 (N y.s.hi)]] w fun e w' => e = .returned (.agg #[.int .u64 (N (Fa.makes 160 (!nw) 0 x y).t.v), .int .u64 (N (Fa.makes 160 (!nw) 0 x y).t.m), .int .u64 (N (Fa.makes 160 (!nw) 0 x y).s.lo), .int .u64 (N (Fa.makes 160 (!nw) 0 x y).s.hi)]) ∧ Below w.heap.size w w' := by
  rw [Fa.mk_xor (.inl hx), Fa.plain_none hd]
  go_enter Try.func43, Try.ntmps43
  go_wp2_with (first | (go_at_call 21; (with_reducible refine (rfknown_c' _ _ _ _ _).mono ?_); rintro e w1 ⟨rfl, hb1⟩; obtain ⟨hc1, hf1, hz1⟩ := bcell hb1; (try simp only [World.size_alloc, World.size_setCell, World.size_drew] at hc1 hf1 hz1)))
  go_wp2_with fail
  refine (r_do_c' _ _ _ _ _ _).mono ?_
  rintro e wT ⟨rfl, hbwT⟩
  obtain ⟨hcwT, hfwT, hzwT⟩ := bcell hbwT
  (try simp only [World.size_alloc, World.size_setCell, World.size_drew] at hcwT hfwT hzwT)
  go_wp2_with (first | (go_at_call 26; (with_reducible refine (rfany_c _).mono ?_); rintro e w1 ⟨rfl, hb1⟩; obtain ⟨hc1, hf1, hz1⟩ := bcell hb1; (try simp only [World.size_alloc, World.size_setCell, World.size_drew] at hc1 hf1 hz1)))
  refine wp_region_class_tail (WideC x y Fa.zero Fa.any.t w wT) 8 (by kernel_rfl) (by kernel_rfl) ?_ ?_
  · refine ⟨?_, ?_, ?_, ?_, ?_, ?_, ?_, ?_, ?_, ?_, ?_, ?_, ?_, ?_, ?_, ?_, (by repeat' (first | (with_reducible exact Below.refl _ _) | (with_reducible assumption) | (with_reducible refine Below.alloc ?_ ?_ _) | (with_reducible refine Below.setCell ?_ ?_ _) | (with_reducible refine Below.drew ?_) | (with_reducible refine below_dn ?_ _) | (with_reducible refine Below.trans ?_ (Below.mono (by assumption) ?_)) | go_size))⟩
    all_goals first | (intro i; simp [*, go_sem, ↓IntWalk.iteOmega]; done) | (simp [*, go_sem, ↓IntWalk.iteOmega]; done)
  clear hbwT hcwT hfwT hzwT
  intro hN
  (try simp only [List.append])
  simp only [List.take_succ_cons, List.take_zero, List.drop_succ_cons, List.drop_zero]
  repeat (first
    | go_big_quiet_skip
    | (go_big_quiet_want
       first
         | ((first | (refine quiet_load_Tn rfl rfl (fun w' hC => by obtain ⟨k0, k1, k2, k3, k4, k5, k6, k7, k8, k9, k10, k11, k12, k13, k14, k15, k16⟩ := hC; exact ⟨by assumption, by assumption⟩) ?_) | (refine quiet_load_Sp rfl rfl (fun w' hC => by obtain ⟨k0, k1, k2, k3, k4, k5, k6, k7, k8, k9, k10, k11, k12, k13, k14, k15, k16⟩ := hC; exact ⟨by assumption, by assumption⟩) ?_) | (refine quiet_load_Fa rfl rfl (fun w' hC => by obtain ⟨k0, k1, k2, k3, k4, k5, k6, k7, k8, k9, k10, k11, k12, k13, k14, k15, k16⟩ := hC; exact ⟨by assumption, by assumption, by assumption, by assumption⟩) ?_) | (refine quiet_load_W rfl rfl (fun w' hC => by obtain ⟨k0, k1, k2, k3, k4, k5, k6, k7, k8, k9, k10, k11, k12, k13, k14, k15, k16⟩ := hC; assumption) ?_))
            simp only [Act.put, List.setIfInBounds_toArray, List.set_cons_succ, List.set_cons_zero]
            go_big_quiet_on)
         | (go_big_quiet_op
            first
              | go_big_quiet_on
              | (apply Exists.intro
                 refine ⟨fun w' hC => ?_, ?_⟩
                 · (first | (go_at_call 89; (with_reducible refine (rsdo_c' _ _ _ _ _ _).mono ?_); rintro e w1 ⟨rfl, hb1⟩) | (go_at_call 60; (with_reducible refine (rfsettled_c' _ _ _ _ _).mono ?_); rintro e w1 ⟨rfl, hb1⟩))
                   (try simp only [Tn.eta, Sp.eta, Fa.eta])
                   exact ⟨rfl, by first | exact hC | exact WideC_keep _ _ hC hb1⟩
                 go_big_quiet_on))))
  refine wpQuiet_nil ?_
  intro w9 hC
  obtain ⟨k0, k1, k2, k3, k4, k5, k6, k7, k8, k9, k10, k11, k12, k13, k14, k15, k16⟩ := hC
  have z0 := cell_lt k0
  have z4 := cell_lt k4
  have z8 := cell_lt k8
  have z12 := cell_lt k12
  go_wp2
  refine bodyPost_ret ?_ rfl ⟨rfl, (by repeat' (first | (with_reducible assumption) | (with_reducible refine Below.setCell ?_ ?_ _) | go_size))⟩
  simp only [results, Try.results43]; simp [*, go_sem, ↓IntWalk.iteOmega]; try (first | rfl | exact ⟨rfl, rfl⟩)

set_option maxHeartbeats 2000000 in
theorem wd_xor_s1 (nw : Bool) (x y : Fa) (t : Tn) (q : BitVec 64) (hx : Fa.known x = none) (hy : Fa.known y = some q) (hd : Tn.do_ 160 x.t (y).t = some t) (w : World) : Calls Try.prog 43 #[.int .u8 160, .bool nw, .int .i16 0, .agg #[.int .u64 (N x.t.v), .int .u64 (N x.t.m), .int .u64 (N x.s.lo), .int .u64 (N x.s.hi)], .agg #[.int .u64 (N y.t.v), .int .u64 (N y.t.m), .int .u64 (N y.s.lo), .int .u64 (N y.s.hi)]] w fun e w' => e = .returned (.agg #[.int .u64 (N (Fa.makes 160 (!nw) 0 x y).t.v), .int .u64 (N (Fa.makes 160 (!nw) 0 x y).t.m), .int .u64 (N (Fa.makes 160 (!nw) 0 x y).s.lo), .int .u64 (N (Fa.makes 160 (!nw) 0 x y).s.hi)]) ∧ Below w.heap.size w w' := by
  rw [Fa.mk_xor (.inl hx), Fa.plain_some hd]
  go_enter Try.func43, Try.ntmps43
  go_wp2_with (first | (go_at_call 21; (with_reducible refine (rfknown_c' _ _ _ _ _).mono ?_); rintro e w1 ⟨rfl, hb1⟩; obtain ⟨hc1, hf1, hz1⟩ := bcell hb1; (try simp only [World.size_alloc, World.size_setCell, World.size_drew] at hc1 hf1 hz1)))
  go_wp2_with fail
  refine (r_do_c' _ _ _ _ _ _).mono ?_
  rintro e wT ⟨rfl, hbwT⟩
  obtain ⟨hcwT, hfwT, hzwT⟩ := bcell hbwT
  (try simp only [World.size_alloc, World.size_setCell, World.size_drew] at hcwT hfwT hzwT)
  go_wp2_with fail
  refine wp_region_class_tail (WideC x y Fa.zero t w wT) 8 (by kernel_rfl) (by kernel_rfl) ?_ ?_
  · refine ⟨?_, ?_, ?_, ?_, ?_, ?_, ?_, ?_, ?_, ?_, ?_, ?_, ?_, ?_, ?_, ?_, (by repeat' (first | (with_reducible exact Below.refl _ _) | (with_reducible assumption) | (with_reducible refine Below.alloc ?_ ?_ _) | (with_reducible refine Below.setCell ?_ ?_ _) | (with_reducible refine Below.drew ?_) | (with_reducible refine below_dn ?_ _) | (with_reducible refine Below.trans ?_ (Below.mono (by assumption) ?_)) | go_size))⟩
    all_goals first | (intro i; simp [*, go_sem, ↓IntWalk.iteOmega]; done) | (simp [*, go_sem, ↓IntWalk.iteOmega]; done)
  clear hbwT hcwT hfwT hzwT
  intro hN
  (try simp only [List.append])
  simp only [List.take_succ_cons, List.take_zero, List.drop_succ_cons, List.drop_zero]
  repeat (first
    | go_big_quiet_skip
    | (go_big_quiet_want
       first
         | ((first | (refine quiet_load_Tn rfl rfl (fun w' hC => by obtain ⟨k0, k1, k2, k3, k4, k5, k6, k7, k8, k9, k10, k11, k12, k13, k14, k15, k16⟩ := hC; exact ⟨by assumption, by assumption⟩) ?_) | (refine quiet_load_Sp rfl rfl (fun w' hC => by obtain ⟨k0, k1, k2, k3, k4, k5, k6, k7, k8, k9, k10, k11, k12, k13, k14, k15, k16⟩ := hC; exact ⟨by assumption, by assumption⟩) ?_) | (refine quiet_load_Fa rfl rfl (fun w' hC => by obtain ⟨k0, k1, k2, k3, k4, k5, k6, k7, k8, k9, k10, k11, k12, k13, k14, k15, k16⟩ := hC; exact ⟨by assumption, by assumption, by assumption, by assumption⟩) ?_) | (refine quiet_load_W rfl rfl (fun w' hC => by obtain ⟨k0, k1, k2, k3, k4, k5, k6, k7, k8, k9, k10, k11, k12, k13, k14, k15, k16⟩ := hC; assumption) ?_))
            simp only [Act.put, List.setIfInBounds_toArray, List.set_cons_succ, List.set_cons_zero]
            go_big_quiet_on)
         | (go_big_quiet_op
            first
              | go_big_quiet_on
              | (apply Exists.intro
                 refine ⟨fun w' hC => ?_, ?_⟩
                 · (first | (go_at_call 89; (with_reducible refine (rsdo_c' _ _ _ _ _ _).mono ?_); rintro e w1 ⟨rfl, hb1⟩) | (go_at_call 60; (with_reducible refine (rfsettled_c' _ _ _ _ _).mono ?_); rintro e w1 ⟨rfl, hb1⟩))
                   (try simp only [Tn.eta, Sp.eta, Fa.eta])
                   exact ⟨rfl, by first | exact hC | exact WideC_keep _ _ hC hb1⟩
                 go_big_quiet_on))))
  refine wpQuiet_nil ?_
  intro w9 hC
  obtain ⟨k0, k1, k2, k3, k4, k5, k6, k7, k8, k9, k10, k11, k12, k13, k14, k15, k16⟩ := hC
  have z0 := cell_lt k0
  have z4 := cell_lt k4
  have z8 := cell_lt k8
  have z12 := cell_lt k12
  go_wp2
  refine bodyPost_ret ?_ rfl ⟨rfl, (by repeat' (first | (with_reducible assumption) | (with_reducible refine Below.setCell ?_ ?_ _) | go_size))⟩
  simp only [results, Try.results43]; simp [*, go_sem, ↓IntWalk.iteOmega]; try (first | rfl | exact ⟨rfl, rfl⟩)

end Hk
