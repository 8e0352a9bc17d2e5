/- The statement FactTwo of the Go text: it returns true, and old memory is as it was. No condition. -/
import Derived.Test.YtmhkngblpojeaaaProg
import Derived.Test.YtmhkngblpojeaaaGp
import Derived.Test.YtmhkngblpojeaaaFl1
import Derived.Test.YtmhkngblpojeaaaGl
import Derived.Deep.RegionHeld3
import Derived.Deep.DeepCutAuto
import Derived.LoopN
namespace Hk
open Go Go.RowKit Go.Proofs
set_option linter.unusedSimpArgs false
set_option linter.unusedVariables false
set_option maxRecDepth 100000
attribute [go_sem] Tn.eta
def FTwoC (a b c d : Fa) (w wA wB : World) (w' : World) : Prop := w'.cell? ⟨w.heap.size, 0, none⟩ = some (.int .u64 (N a.t.v)) ∧ w'.cell? ⟨w.heap.size, 1, none⟩ = some (.int .u64 (N a.t.m)) ∧ w'.cell? ⟨w.heap.size, 2, none⟩ = some (.int .u64 (N a.s.lo)) ∧ w'.cell? ⟨w.heap.size, 3, none⟩ = some (.int .u64 (N a.s.hi)) ∧ w'.cell? ⟨w.heap.size + 1, 0, none⟩ = some (.int .u64 (N b.t.v)) ∧ w'.cell? ⟨w.heap.size + 1, 1, none⟩ = some (.int .u64 (N b.t.m)) ∧ w'.cell? ⟨w.heap.size + 1, 2, none⟩ = some (.int .u64 (N b.s.lo)) ∧ w'.cell? ⟨w.heap.size + 1, 3, none⟩ = some (.int .u64 (N b.s.hi)) ∧ w'.cell? ⟨wA.heap.size, 0, none⟩ = some (.int .u64 (N c.t.v)) ∧ w'.cell? ⟨wA.heap.size, 1, none⟩ = some (.int .u64 (N c.t.m)) ∧ w'.cell? ⟨wA.heap.size, 2, none⟩ = some (.int .u64 (N c.s.lo)) ∧ w'.cell? ⟨wA.heap.size, 3, none⟩ = some (.int .u64 (N c.s.hi)) ∧ w'.cell? ⟨wB.heap.size, 0, none⟩ = some (.int .u64 (N d.t.v)) ∧ w'.cell? ⟨wB.heap.size, 1, none⟩ = some (.int .u64 (N d.t.m)) ∧ w'.cell? ⟨wB.heap.size, 2, none⟩ = some (.int .u64 (N d.s.lo)) ∧ w'.cell? ⟨wB.heap.size, 3, none⟩ = some (.int .u64 (N d.s.hi)) ∧ Below w.heap.size w w'
theorem FTwoC_keep {a b c d : Fa} {w wA wB : World} (w' w1 : World) (h : FTwoC a b c d w wA wB w') (hb : Below w'.heap.size w' w1) : FTwoC a b c d w wA wB w1 := by
  obtain ⟨k0, k1, k2, k3, k4, k5, k6, k7, k8, k9, k10, k11, k12, k13, k14, k15, k16⟩ := h
  exact ⟨cell_keep hb k0, cell_keep hb k1, cell_keep hb k2, cell_keep hb k3, cell_keep hb k4, cell_keep hb k5, cell_keep hb k6, cell_keep hb k7, cell_keep hb k8, cell_keep hb k9, cell_keep hb k10, cell_keep hb k11, cell_keep hb k12, cell_keep hb k13, cell_keep hb k14, cell_keep hb k15, below_next k16 hb⟩

def FTwoD (x y : Fa) (r : Nat) (wc : World) (w' : World) : Prop := w'.cell? ⟨r, 0, none⟩ = some (.int .u64 (N x.t.v)) ∧ w'.cell? ⟨r, 1, none⟩ = some (.int .u64 (N x.t.m)) ∧ w'.cell? ⟨r, 2, none⟩ = some (.int .u64 (N x.s.lo)) ∧ w'.cell? ⟨r, 3, none⟩ = some (.int .u64 (N x.s.hi)) ∧ w'.cell? ⟨r, 4, none⟩ = some (.int .u64 (N y.t.v)) ∧ w'.cell? ⟨r, 5, none⟩ = some (.int .u64 (N y.t.m)) ∧ w'.cell? ⟨r, 6, none⟩ = some (.int .u64 (N y.s.lo)) ∧ w'.cell? ⟨r, 7, none⟩ = some (.int .u64 (N y.s.hi)) ∧ Below wc.heap.size wc w'
theorem FTwoD_keep {x y : Fa} {r : Nat} {wc : World} (w' w1 : World) (h : FTwoD x y r wc w') (hb : Below w'.heap.size w' w1) : FTwoD x y r wc w1 := by
  obtain ⟨k0, k1, k2, k3, k4, k5, k6, k7, k8⟩ := h
  exact ⟨cell_keep hb k0, cell_keep hb k1, cell_keep hb k2, cell_keep hb k3, cell_keep hb k4, cell_keep hb k5, cell_keep hb k6, cell_keep hb k7, below_next k8 hb⟩

set_option maxHeartbeats 8000000 in
theorem factTwo_walk (a b : Fa) (w : World) : Calls Try.prog 7 #[.agg #[.int .u64 (N a.t.v), .int .u64 (N a.t.m), .int .u64 (N a.s.lo), .int .u64 (N a.s.hi)], .agg #[.int .u64 (N b.t.v), .int .u64 (N b.t.m), .int .u64 (N b.s.lo), .int .u64 (N b.s.hi)]] w fun e w' => e = .returned (.bool true) ∧ Below w.heap.size w w' := by
  go_enter Try.func7, Try.ntmps7
  go_wp2_with fail
  refine (fshown_c _).mono ?_
  rintro e wS ⟨rfl, hbwS⟩
  obtain ⟨hcwS, hfwS, hzwS⟩ := bcell hbwS
  (try simp only [World.size_alloc, World.size_setCell, World.size_drew] at hcwS hfwS hzwS)
  go_wp2_with fail
  refine (rsettle_c' _ _ _ _ _).mono ?_
  rintro e wA ⟨rfl, hbwA⟩
  obtain ⟨hcwA, hfwA, hzwA⟩ := bcell hbwA
  (try simp only [World.size_alloc, World.size_setCell, World.size_drew] at hcwA hfwA hzwA)
  go_wp2_with fail
  refine (rsettle_c' _ _ _ _ _).mono ?_
  rintro e wB ⟨rfl, hbwB⟩
  obtain ⟨hcwB, hfwB, hzwB⟩ := bcell hbwB
  (try simp only [World.size_alloc, World.size_setCell, World.size_drew] at hcwB hfwB hzwB)
  go_upto_region 4 with fail
  go_cut [34, 35, 36] (fun s34 s35 s36 wx => ∃ p : Nat, s34 = .slice (some ⟨p, 0, none⟩) 3 3 ∧ s35 = .int .i64 3 ∧ s36 = .int .i64 0 ∧ wx.cell? ⟨p, 0, none⟩ = some (.int .u64 (N a.t.v)) ∧ wx.cell? ⟨p, 1, none⟩ = some (.int .u64 (N a.t.m)) ∧ wx.cell? ⟨p, 2, none⟩ = some (.int .u64 (N a.s.lo)) ∧ wx.cell? ⟨p, 3, none⟩ = some (.int .u64 (N a.s.hi)) ∧ wx.cell? ⟨p, 4, none⟩ = some (.int .u64 (N b.t.v)) ∧ wx.cell? ⟨p, 5, none⟩ = some (.int .u64 (N b.t.m)) ∧ wx.cell? ⟨p, 6, none⟩ = some (.int .u64 (N b.s.lo)) ∧ wx.cell? ⟨p, 7, none⟩ = some (.int .u64 (N b.s.hi)) ∧ wx.cell? ⟨p, 8, none⟩ = some (.int .u64 (N ((Fa.settle a).getD Fa.zero).t.v)) ∧ wx.cell? ⟨p, 9, none⟩ = some (.int .u64 (N ((Fa.settle a).getD Fa.zero).t.m)) ∧ wx.cell? ⟨p, 10, none⟩ = some (.int .u64 (N ((Fa.settle a).getD Fa.zero).s.lo)) ∧ wx.cell? ⟨p, 11, none⟩ = some (.int .u64 (N ((Fa.settle a).getD Fa.zero).s.hi)) ∧ wx.cell? ⟨p, 12, none⟩ = some (.int .u64 (N ((Fa.settle b).getD Fa.zero).t.v)) ∧ wx.cell? ⟨p, 13, none⟩ = some (.int .u64 (N ((Fa.settle b).getD Fa.zero).t.m)) ∧ wx.cell? ⟨p, 14, none⟩ = some (.int .u64 (N ((Fa.settle b).getD Fa.zero).s.lo)) ∧ wx.cell? ⟨p, 15, none⟩ = some (.int .u64 (N ((Fa.settle b).getD Fa.zero).s.hi)) ∧ wx.cell? ⟨p, 16, none⟩ = some (.int .u64 (N ((Fa.settle a).getD Fa.zero).t.v)) ∧ wx.cell? ⟨p, 17, none⟩ = some (.int .u64 (N ((Fa.settle a).getD Fa.zero).t.m)) ∧ wx.cell? ⟨p, 18, none⟩ = some (.int .u64 (N ((Fa.settle a).getD Fa.zero).s.lo)) ∧ wx.cell? ⟨p, 19, none⟩ = some (.int .u64 (N ((Fa.settle a).getD Fa.zero).s.hi)) ∧ wx.cell? ⟨p, 20, none⟩ = some (.int .u64 (N (Fa.join ((Fa.settle a).getD Fa.zero) ((Fa.settle b).getD Fa.zero)).t.v)) ∧ wx.cell? ⟨p, 21, none⟩ = some (.int .u64 (N (Fa.join ((Fa.settle a).getD Fa.zero) ((Fa.settle b).getD Fa.zero)).t.m)) ∧ wx.cell? ⟨p, 22, none⟩ = some (.int .u64 (N (Fa.join ((Fa.settle a).getD Fa.zero) ((Fa.settle b).getD Fa.zero)).s.lo)) ∧ wx.cell? ⟨p, 23, none⟩ = some (.int .u64 (N (Fa.join ((Fa.settle a).getD Fa.zero) ((Fa.settle b).getD Fa.zero)).s.hi)) ∧ Below w.heap.size w wx)
  case first =>
    have HC : FTwoC a b ((Fa.settle a).getD Fa.zero) ((Fa.settle b).getD Fa.zero) w wA wB (wB.alloc (.cells #[.int .u64 (N ((Fa.settle b).getD Fa.zero).t.v), .int .u64 (N ((Fa.settle b).getD Fa.zero).t.m), .int .u64 (N ((Fa.settle b).getD Fa.zero).s.lo), .int .u64 (N ((Fa.settle b).getD Fa.zero).s.hi)] 29)) := by
      refine ⟨?_, ?_, ?_, ?_, ?_, ?_, ?_, ?_, ?_, ?_, ?_, ?_, ?_, ?_, ?_, ?_, (by repeat' (first | (with_reducible exact Below.refl _ _) | (with_reducible assumption) | (with_reducible refine Below.alloc ?_ ?_ _) | (with_reducible refine Below.setCell ?_ ?_ _) | (with_reducible refine Below.drew ?_) | (with_reducible refine below_dn ?_ _) | (with_reducible refine Below.trans ?_ (Below.mono (by assumption) ?_)) | go_size))⟩
      all_goals first | (intro i; simp [*, go_sem, ↓IntWalk.iteOmega]; done) | (simp [*, go_sem, ↓IntWalk.iteOmega]; done)
    go_region_held3 (fun w' => w'.cell? ⟨w.heap.size, 0, none⟩ = some (.int .u64 (N a.t.v)) ∧ w'.cell? ⟨w.heap.size, 1, none⟩ = some (.int .u64 (N a.t.m)) ∧ w'.cell? ⟨w.heap.size, 2, none⟩ = some (.int .u64 (N a.s.lo)) ∧ w'.cell? ⟨w.heap.size, 3, none⟩ = some (.int .u64 (N a.s.hi)) ∧ w'.cell? ⟨w.heap.size + 1, 0, none⟩ = some (.int .u64 (N b.t.v)) ∧ w'.cell? ⟨w.heap.size + 1, 1, none⟩ = some (.int .u64 (N b.t.m)) ∧ w'.cell? ⟨w.heap.size + 1, 2, none⟩ = some (.int .u64 (N b.s.lo)) ∧ w'.cell? ⟨w.heap.size + 1, 3, none⟩ = some (.int .u64 (N b.s.hi)) ∧ w'.cell? ⟨wA.heap.size, 0, none⟩ = some (.int .u64 (N ((Fa.settle a).getD Fa.zero).t.v)) ∧ w'.cell? ⟨wA.heap.size, 1, none⟩ = some (.int .u64 (N ((Fa.settle a).getD Fa.zero).t.m)) ∧ w'.cell? ⟨wA.heap.size, 2, none⟩ = some (.int .u64 (N ((Fa.settle a).getD Fa.zero).s.lo)) ∧ w'.cell? ⟨wA.heap.size, 3, none⟩ = some (.int .u64 (N ((Fa.settle a).getD Fa.zero).s.hi)) ∧ w'.cell? ⟨wB.heap.size, 0, none⟩ = some (.int .u64 (N ((Fa.settle b).getD Fa.zero).t.v)) ∧ w'.cell? ⟨wB.heap.size, 1, none⟩ = some (.int .u64 (N ((Fa.settle b).getD Fa.zero).t.m)) ∧ w'.cell? ⟨wB.heap.size, 2, none⟩ = some (.int .u64 (N ((Fa.settle b).getD Fa.zero).s.lo)) ∧ w'.cell? ⟨wB.heap.size, 3, none⟩ = some (.int .u64 (N ((Fa.settle b).getD Fa.zero).s.hi)) ∧ Below w.heap.size w w') (((refine FTwoC_keep  _ _ HC ?_); (repeat' (first | (with_reducible exact Below.refl _ _) | (with_reducible assumption) | (with_reducible refine Below.alloc ?_ ?_ _) | (with_reducible refine Below.setCell ?_ ?_ _) | (with_reducible refine Below.drew ?_) | (with_reducible refine below_dn ?_ _) | (with_reducible refine Below.trans ?_ (Below.mono (by assumption) ?_)) | go_size)))) ((first | (go_at_call 29; (with_reducible refine (rfjoin_c' _ _ _ _ _ _ _ _ _).mono ?_); rintro e w1 ⟨rfl, hb1⟩; obtain ⟨hc1, hf1, hz1⟩ := bcell hb1; (try simp only [World.size_alloc, World.size_setCell, World.size_drew] at hc1 hf1 hz1))))
    all_goals (go_wp2_with fail; go_meet; refine ⟨_, rfl, rfl, rfl, ?_, ?_, ?_, ?_, ?_, ?_, ?_, ?_, ?_, ?_, ?_, ?_, ?_, ?_, ?_, ?_, ?_, ?_, ?_, ?_, ?_, ?_, ?_, ?_, (by repeat' (first | (with_reducible exact Below.refl _ _) | (with_reducible assumption) | (with_reducible refine Below.alloc ?_ ?_ _) | (with_reducible refine Below.setCell ?_ ?_ _) | (with_reducible refine Below.drew ?_) | (with_reducible refine below_dn ?_ _) | (with_reducible refine Below.trans ?_ (Below.mono (by assumption) ?_)) | go_size))⟩ <;> (simp [*, go_sem, ↓IntWalk.iteOmega]; done))
  case rest =>
    obtain ⟨p, rfl, rfl, rfl, c0, c1, c2, c3, c4, c5, c6, c7, c8, c9, c10, c11, c12, c13, c14, c15, c16, c17, c18, c19, c20, c21, c22, c23, hbC⟩ := hcut
    have zc := cell_lt c0
    have hzC := (bcell hbC).2.2
    clear hbwS hcwS hfwS hzwS hbwA hcwA hfwA hzwA hbwB hcwB hfwB hzwB
    go_wp2_with fail
    refine wp_loop_rounds 4 ?_
    rw [rounds_succ]
    go_wp2_with fail
    refine wp_region_class (FTwoD a b wc.heap.size wc) (by kernel_rfl) (by kernel_rfl) ?_ ?_
    · refine ⟨?_, ?_, ?_, ?_, ?_, ?_, ?_, ?_, (by repeat' (first | (with_reducible exact Below.refl _ _) | (with_reducible assumption) | (with_reducible refine Below.alloc ?_ ?_ _) | (with_reducible refine Below.setCell ?_ ?_ _) | (with_reducible refine Below.drew ?_) | (with_reducible refine below_dn ?_ _) | (with_reducible refine Below.trans ?_ (Below.mono (by assumption) ?_)) | go_size))⟩
      all_goals first | (intro i; simp [*, go_sem, ↓IntWalk.iteOmega]; done) | (simp [*, go_sem, ↓IntWalk.iteOmega]; done)
    intro hN
    (try simp only [List.append])
    repeat (first
      | go_big_quiet_skip
      | (go_big_quiet_want
         first
           | (refine quiet_load_Fa rfl rfl (fun w' hC => by obtain ⟨k0, k1, k2, k3, k4, k5, k6, k7, k8⟩ := hC; first | exact ⟨k0, k1, k2, k3⟩ | exact ⟨k1, k2, k3, k4⟩ | exact ⟨k2, k3, k4, k5⟩ | exact ⟨k3, k4, k5, k6⟩ | exact ⟨k4, k5, k6, k7⟩) ?_
              simp only [Act.put, List.setIfInBounds_toArray, List.set_cons_succ, List.set_cons_zero]
              go_big_quiet_on)
           | (refine quiet_load_W rfl rfl (fun w' hC => by obtain ⟨k0, k1, k2, k3, k4, k5, k6, k7, k8⟩ := hC; first | exact k0 | exact k1 | exact k2 | exact k3 | exact k4 | exact k5 | exact k6 | exact k7) ?_
              simp only [Act.put, List.setIfInBounds_toArray, List.set_cons_succ, List.set_cons_zero]
              go_big_quiet_on)
           | (go_big_quiet_op
              first
                | go_big_quiet_on
                | (apply Exists.intro
                   refine ⟨fun w' hC => ?_, ?_⟩
                   · (first | (go_at_call 30; (with_reducible refine (fwithin_c' _ _ _ _ _ _ _ _ _).mono ?_); rintro e w1 ⟨rfl, hb1⟩) | (go_at_call 32; (with_reducible refine (fjoin_c' _ _ _ _ _ _ _ _ _).mono ?_); rintro e w1 ⟨rfl, hb1⟩) | (go_at_call 33; (with_reducible refine (fcut_c' _ _ _ _ _).mono ?_); rintro e w1 ⟨rfl, hb1⟩) | (go_at_call 31; (with_reducible refine (rfwithin_c' _ _ _ _ _ _ _ _ _).mono ?_); rintro e w1 ⟨rfl, hb1⟩) | (go_at_call 29; (with_reducible refine (rfjoin_c' _ _ _ _ _ _ _ _ _).mono ?_); rintro e w1 ⟨rfl, hb1⟩) | (go_at_call 34; (with_reducible refine (rfcut_c' _ _ _ _ _).mono ?_); rintro e w1 ⟨rfl, hb1⟩))
                     (try simp only [Tn.eta, Sp.eta, Fa.eta])
                     exact ⟨rfl, by first | exact hC | exact FTwoD_keep _ _ hC hb1⟩
                   go_big_quiet_on))))
    refine wpQuiet_nil ?_
    intro wR0 hC
    obtain ⟨r0k0, r0k1, r0k2, r0k3, r0k4, r0k5, r0k6, r0k7, r0k8⟩ := hC
    have rz0 := cell_lt r0k0
    obtain ⟨hcwR0, hfwR0, hzwR0⟩ := bcell r0k8
    go_wp2_with fail
    rw [rounds_succ]
    go_wp2_with fail
    refine wp_region_class (FTwoD ((Fa.settle a).getD Fa.zero) ((Fa.settle b).getD Fa.zero) wR0.heap.size wc) (by kernel_rfl) (by kernel_rfl) ?_ ?_
    · refine ⟨?_, ?_, ?_, ?_, ?_, ?_, ?_, ?_, (by repeat' (first | (with_reducible exact Below.refl _ _) | (with_reducible assumption) | (with_reducible refine Below.alloc ?_ ?_ _) | (with_reducible refine Below.setCell ?_ ?_ _) | (with_reducible refine Below.drew ?_) | (with_reducible refine below_dn ?_ _) | (with_reducible refine Below.trans ?_ (Below.mono (by assumption) ?_)) | go_size))⟩
      all_goals first | (intro i; simp [*, go_sem, ↓IntWalk.iteOmega]; done) | (simp [*, go_sem, ↓IntWalk.iteOmega]; done)
    intro hN
    (try simp only [List.append])
    repeat (first
      | go_big_quiet_skip
      | (go_big_quiet_want
         first
           | (refine quiet_load_Fa rfl rfl (fun w' hC => by obtain ⟨k0, k1, k2, k3, k4, k5, k6, k7, k8⟩ := hC; first | exact ⟨k0, k1, k2, k3⟩ | exact ⟨k1, k2, k3, k4⟩ | exact ⟨k2, k3, k4, k5⟩ | exact ⟨k3, k4, k5, k6⟩ | exact ⟨k4, k5, k6, k7⟩) ?_
              simp only [Act.put, List.setIfInBounds_toArray, List.set_cons_succ, List.set_cons_zero]
              go_big_quiet_on)
           | (refine quiet_load_W rfl rfl (fun w' hC => by obtain ⟨k0, k1, k2, k3, k4, k5, k6, k7, k8⟩ := hC; first | exact k0 | exact k1 | exact k2 | exact k3 | exact k4 | exact k5 | exact k6 | exact k7) ?_
              simp only [Act.put, List.setIfInBounds_toArray, List.set_cons_succ, List.set_cons_zero]
              go_big_quiet_on)
           | (go_big_quiet_op
              first
                | go_big_quiet_on
                | (apply Exists.intro
                   refine ⟨fun w' hC => ?_, ?_⟩
                   · (first | (go_at_call 30; (with_reducible refine (fwithin_c' _ _ _ _ _ _ _ _ _).mono ?_); rintro e w1 ⟨rfl, hb1⟩) | (go_at_call 32; (with_reducible refine (fjoin_c' _ _ _ _ _ _ _ _ _).mono ?_); rintro e w1 ⟨rfl, hb1⟩) | (go_at_call 33; (with_reducible refine (fcut_c' _ _ _ _ _).mono ?_); rintro e w1 ⟨rfl, hb1⟩) | (go_at_call 31; (with_reducible refine (rfwithin_c' _ _ _ _ _ _ _ _ _).mono ?_); rintro e w1 ⟨rfl, hb1⟩) | (go_at_call 29; (with_reducible refine (rfjoin_c' _ _ _ _ _ _ _ _ _).mono ?_); rintro e w1 ⟨rfl, hb1⟩) | (go_at_call 34; (with_reducible refine (rfcut_c' _ _ _ _ _).mono ?_); rintro e w1 ⟨rfl, hb1⟩))
                     (try simp only [Tn.eta, Sp.eta, Fa.eta])
                     exact ⟨rfl, by first | exact hC | exact FTwoD_keep _ _ hC hb1⟩
                   go_big_quiet_on))))
    refine wpQuiet_nil ?_
    intro wR1 hC
    obtain ⟨r1k0, r1k1, r1k2, r1k3, r1k4, r1k5, r1k6, r1k7, r1k8⟩ := hC
    have rz1 := cell_lt r1k0
    obtain ⟨hcwR1, hfwR1, hzwR1⟩ := bcell r1k8
    go_wp2_with fail
    rw [rounds_succ]
    go_wp2_with fail
    refine wp_region_class (FTwoD ((Fa.settle a).getD Fa.zero) (Fa.join ((Fa.settle a).getD Fa.zero) ((Fa.settle b).getD Fa.zero)) wR1.heap.size wc) (by kernel_rfl) (by kernel_rfl) ?_ ?_
    · refine ⟨?_, ?_, ?_, ?_, ?_, ?_, ?_, ?_, (by repeat' (first | (with_reducible exact Below.refl _ _) | (with_reducible assumption) | (with_reducible refine Below.alloc ?_ ?_ _) | (with_reducible refine Below.setCell ?_ ?_ _) | (with_reducible refine Below.drew ?_) | (with_reducible refine below_dn ?_ _) | (with_reducible refine Below.trans ?_ (Below.mono (by assumption) ?_)) | go_size))⟩
      all_goals first | (intro i; simp [*, go_sem, ↓IntWalk.iteOmega]; done) | (simp [*, go_sem, ↓IntWalk.iteOmega]; done)
    intro hN
    (try simp only [List.append])
    repeat (first
      | go_big_quiet_skip
      | (go_big_quiet_want
         first
           | (refine quiet_load_Fa rfl rfl (fun w' hC => by obtain ⟨k0, k1, k2, k3, k4, k5, k6, k7, k8⟩ := hC; first | exact ⟨k0, k1, k2, k3⟩ | exact ⟨k1, k2, k3, k4⟩ | exact ⟨k2, k3, k4, k5⟩ | exact ⟨k3, k4, k5, k6⟩ | exact ⟨k4, k5, k6, k7⟩) ?_
              simp only [Act.put, List.setIfInBounds_toArray, List.set_cons_succ, List.set_cons_zero]
              go_big_quiet_on)
           | (refine quiet_load_W rfl rfl (fun w' hC => by obtain ⟨k0, k1, k2, k3, k4, k5, k6, k7, k8⟩ := hC; first | exact k0 | exact k1 | exact k2 | exact k3 | exact k4 | exact k5 | exact k6 | exact k7) ?_
              simp only [Act.put, List.setIfInBounds_toArray, List.set_cons_succ, List.set_cons_zero]
              go_big_quiet_on)
           | (go_big_quiet_op
              first
                | go_big_quiet_on
                | (apply Exists.intro
                   refine ⟨fun w' hC => ?_, ?_⟩
                   · (first | (go_at_call 30; (with_reducible refine (fwithin_c' _ _ _ _ _ _ _ _ _).mono ?_); rintro e w1 ⟨rfl, hb1⟩) | (go_at_call 32; (with_reducible refine (fjoin_c' _ _ _ _ _ _ _ _ _).mono ?_); rintro e w1 ⟨rfl, hb1⟩) | (go_at_call 33; (with_reducible refine (fcut_c' _ _ _ _ _).mono ?_); rintro e w1 ⟨rfl, hb1⟩) | (go_at_call 31; (with_reducible refine (rfwithin_c' _ _ _ _ _ _ _ _ _).mono ?_); rintro e w1 ⟨rfl, hb1⟩) | (go_at_call 29; (with_reducible refine (rfjoin_c' _ _ _ _ _ _ _ _ _).mono ?_); rintro e w1 ⟨rfl, hb1⟩) | (go_at_call 34; (with_reducible refine (rfcut_c' _ _ _ _ _).mono ?_); rintro e w1 ⟨rfl, hb1⟩))
                     (try simp only [Tn.eta, Sp.eta, Fa.eta])
                     exact ⟨rfl, by first | exact hC | exact FTwoD_keep _ _ hC hb1⟩
                   go_big_quiet_on))))
    refine wpQuiet_nil ?_
    intro wR2 hC
    obtain ⟨r2k0, r2k1, r2k2, r2k3, r2k4, r2k5, r2k6, r2k7, r2k8⟩ := hC
    have rz2 := cell_lt r2k0
    obtain ⟨hcwR2, hfwR2, hzwR2⟩ := bcell r2k8
    go_wp2_with fail
    rw [rounds_succ]
    go_wp2
    go_ret
    exact ⟨rfl, (by repeat' (first | (with_reducible exact Below.refl _ _) | (with_reducible assumption) | (with_reducible refine Below.alloc ?_ ?_ _) | (with_reducible refine Below.setCell ?_ ?_ _) | (with_reducible refine Below.drew ?_) | (with_reducible refine below_dn ?_ _) | (with_reducible refine Below.trans ?_ (Below.mono (by assumption) ?_)) | go_size))⟩

end Hk
