/- The statement FactJoins of the Go text: it returns true, and old memory is as it was. No condition. -/
import Derived.Test.YtmhkngblpojeaaaProg
import Derived.Test.YtmhkngblpojeaaaGp
import Derived.Test.YtmhkngblpojeaaaGf
import Derived.Test.YtmhkngblpojeaaaFl1
import Derived.Test.YtmhkngblpojeaaaGl
import Derived.Deep.RegionHeld3
import Derived.Deep.DeepCutAuto
namespace Hk
open Go Go.RowKit Go.Proofs
set_option linter.unusedSimpArgs false
set_option linter.unusedVariables false
set_option maxRecDepth 100000
attribute [go_sem] Tn.eta
def FEightC (n0 n1 n2 n3 n4 n5 n6 n7 : BitVec 64) (w : World) (w' : World) : Prop := w'.cell? ⟨w.heap.size, 0, none⟩ = some (.int .u64 (N n0)) ∧ w'.cell? ⟨w.heap.size, 1, none⟩ = some (.int .u64 (N n1)) ∧ w'.cell? ⟨w.heap.size, 2, none⟩ = some (.int .u64 (N n2)) ∧ w'.cell? ⟨w.heap.size, 3, none⟩ = some (.int .u64 (N n3)) ∧ w'.cell? ⟨w.heap.size, 4, none⟩ = some (.int .u64 (N n4)) ∧ w'.cell? ⟨w.heap.size, 5, none⟩ = some (.int .u64 (N n5)) ∧ w'.cell? ⟨w.heap.size, 6, none⟩ = some (.int .u64 (N n6)) ∧ w'.cell? ⟨w.heap.size, 7, none⟩ = some (.int .u64 (N n7)) ∧ Below w.heap.size w w'
theorem FEightC_keep {n0 n1 n2 n3 n4 n5 n6 n7 : BitVec 64} {w : World} (w' w1 : World) (h : FEightC n0 n1 n2 n3 n4 n5 n6 n7 w w') (hb : Below w'.heap.size w' w1) : FEightC n0 n1 n2 n3 n4 n5 n6 n7 w w1 := by
  obtain ⟨k0, k1, k2, k3, k4, k5, k6, k7, k8⟩ := h
  exact ⟨cell_keep hb k0, cell_keep hb k1, cell_keep hb k2, cell_keep hb k3, cell_keep hb k4, cell_keep hb k5, cell_keep hb k6, cell_keep hb k7, below_next k8 hb⟩

def FJoinsC (n0 n1 n2 n3 n4 n5 n6 n7 : BitVec 64) (a b j : Fa) (p q : Nat) (w wJ : World) (w' : World) : Prop := w'.cell? ⟨w.heap.size, 0, none⟩ = some (.int .u64 (N n0)) ∧ w'.cell? ⟨w.heap.size, 1, none⟩ = some (.int .u64 (N n1)) ∧ w'.cell? ⟨w.heap.size, 2, none⟩ = some (.int .u64 (N n2)) ∧ w'.cell? ⟨w.heap.size, 3, none⟩ = some (.int .u64 (N n3)) ∧ w'.cell? ⟨w.heap.size, 4, none⟩ = some (.int .u64 (N n4)) ∧ w'.cell? ⟨w.heap.size, 5, none⟩ = some (.int .u64 (N n5)) ∧ w'.cell? ⟨w.heap.size, 6, none⟩ = some (.int .u64 (N n6)) ∧ w'.cell? ⟨w.heap.size, 7, none⟩ = some (.int .u64 (N n7)) ∧ w'.cell? ⟨p, 0, none⟩ = some (.int .u64 (N a.t.v)) ∧ w'.cell? ⟨p, 1, none⟩ = some (.int .u64 (N a.t.m)) ∧ w'.cell? ⟨p, 2, none⟩ = some (.int .u64 (N a.s.lo)) ∧ w'.cell? ⟨p, 3, none⟩ = some (.int .u64 (N a.s.hi)) ∧ w'.cell? ⟨q, 0, none⟩ = some (.int .u64 (N b.t.v)) ∧ w'.cell? ⟨q, 1, none⟩ = some (.int .u64 (N b.t.m)) ∧ w'.cell? ⟨q, 2, none⟩ = some (.int .u64 (N b.s.lo)) ∧ w'.cell? ⟨q, 3, none⟩ = some (.int .u64 (N b.s.hi)) ∧ w'.cell? ⟨wJ.heap.size, 0, none⟩ = some (.int .u64 (N j.t.v)) ∧ w'.cell? ⟨wJ.heap.size, 1, none⟩ = some (.int .u64 (N j.t.m)) ∧ w'.cell? ⟨wJ.heap.size, 2, none⟩ = some (.int .u64 (N j.s.lo)) ∧ w'.cell? ⟨wJ.heap.size, 3, none⟩ = some (.int .u64 (N j.s.hi)) ∧ Below w.heap.size w w'
theorem FJoinsC_keep {n0 n1 n2 n3 n4 n5 n6 n7 : BitVec 64} {a b j : Fa} {p q : Nat} {w wJ : World} (w' w1 : World) (h : FJoinsC n0 n1 n2 n3 n4 n5 n6 n7 a b j p q w wJ w') (hb : Below w'.heap.size w' w1) : FJoinsC n0 n1 n2 n3 n4 n5 n6 n7 a b j p q w wJ w1 := by
  obtain ⟨k0, k1, k2, k3, k4, k5, k6, k7, k8, k9, k10, k11, k12, k13, k14, k15, k16, k17, k18, k19, k20⟩ := h
  exact ⟨cell_keep hb k0, cell_keep hb k1, cell_keep hb k2, cell_keep hb k3, cell_keep hb k4, cell_keep hb k5, cell_keep hb k6, cell_keep hb k7, cell_keep hb k8, cell_keep hb k9, cell_keep hb k10, cell_keep hb k11, cell_keep hb k12, cell_keep hb k13, cell_keep hb k14, cell_keep hb k15, cell_keep hb k16, cell_keep hb k17, cell_keep hb k18, cell_keep hb k19, below_next k20 hb⟩

set_option maxHeartbeats 4000000 in
theorem factJoins_n (n0 n1 n2 n3 n4 n5 n6 n7 : BitVec 64) (a b : Fa) (hma : Fa.made n0 n1 n2 n3 = a) (hmb : Fa.made n4 n5 n6 n7 = b) (ha : Fa.has a n0 = true) (j1 : Fa.has (Fa.join a b) n0 = true) (j2 : Fa.has (Fa.join a b) n4 = true) (j3 : Fa.within a (Fa.join a b) = true) (j4 : Fa.within b (Fa.join a b) = true) (hc : Fa.has (Fa.cut a) (n0 &&& 4294967295#64) = true) (hw : Fa.within a b = false) (w : World) : Calls Try.prog 8 #[.agg #[.int .u64 (N n0), .int .u64 (N n1), .int .u64 (N n2), .int .u64 (N n3), .int .u64 (N n4), .int .u64 (N n5), .int .u64 (N n6), .int .u64 (N n7)]] w fun e w' => e = .returned (.bool true) ∧ Below w.heap.size w w' := by
  have hma' := Lib.hid hma
  have hmb' := Lib.hid hmb
  clear hma hmb
  go_enter Try.func8, Try.ntmps8
  go_wp2_with fail
  refine (fshown_c _).mono ?_
  rintro e wS ⟨rfl, hbwS⟩
  obtain ⟨hcwS, hfwS, hzwS⟩ := bcell hbwS
  (try simp only [World.size_alloc, World.size_setCell, World.size_drew] at hcwS hfwS hzwS)
  go_upto_region 2 with fail
  go_cut [4, 5] (fun sa sb wx => ∃ p q : Nat, sa = .pointer (some ⟨p, 0, none⟩) ∧ sb = .pointer (some ⟨q, 0, none⟩) ∧ FEightC n0 n1 n2 n3 n4 n5 n6 n7 w wx ∧ wx.cell? ⟨p, 0, none⟩ = some (.int .u64 (N (Fa.made n0 n1 n2 n3).t.v)) ∧ wx.cell? ⟨p, 1, none⟩ = some (.int .u64 (N (Fa.made n0 n1 n2 n3).t.m)) ∧ wx.cell? ⟨p, 2, none⟩ = some (.int .u64 (N (Fa.made n0 n1 n2 n3).s.lo)) ∧ wx.cell? ⟨p, 3, none⟩ = some (.int .u64 (N (Fa.made n0 n1 n2 n3).s.hi)) ∧ wx.cell? ⟨q, 0, none⟩ = some (.int .u64 (N (Fa.made n4 n5 n6 n7).t.v)) ∧ wx.cell? ⟨q, 1, none⟩ = some (.int .u64 (N (Fa.made n4 n5 n6 n7).t.m)) ∧ wx.cell? ⟨q, 2, none⟩ = some (.int .u64 (N (Fa.made n4 n5 n6 n7).s.lo)) ∧ wx.cell? ⟨q, 3, none⟩ = some (.int .u64 (N (Fa.made n4 n5 n6 n7).s.hi)))
  case first =>
    have HC : FEightC n0 n1 n2 n3 n4 n5 n6 n7 w wS := by
      refine ⟨?_, ?_, ?_, ?_, ?_, ?_, ?_, ?_, (by repeat' (first | (with_reducible exact Below.refl _ _) | (with_reducible assumption) | (with_reducible refine Below.alloc ?_ ?_ _) | (with_reducible refine Below.setCell ?_ ?_ _) | (with_reducible refine Below.drew ?_) | (with_reducible refine below_dn ?_ _) | (with_reducible refine Below.trans ?_ (Below.mono (by assumption) ?_)) | go_size))⟩
      all_goals first | (intro i; simp [*, go_sem, ↓IntWalk.iteOmega]; done) | (simp [*, go_sem, ↓IntWalk.iteOmega]; done)
    go_region_held3 (fun w' => w'.cell? ⟨w.heap.size, 0, none⟩ = some (.int .u64 (N n0)) ∧ w'.cell? ⟨w.heap.size, 1, none⟩ = some (.int .u64 (N n1)) ∧ w'.cell? ⟨w.heap.size, 2, none⟩ = some (.int .u64 (N n2)) ∧ w'.cell? ⟨w.heap.size, 3, none⟩ = some (.int .u64 (N n3)) ∧ w'.cell? ⟨w.heap.size, 4, none⟩ = some (.int .u64 (N n4)) ∧ w'.cell? ⟨w.heap.size, 5, none⟩ = some (.int .u64 (N n5)) ∧ w'.cell? ⟨w.heap.size, 6, none⟩ = some (.int .u64 (N n6)) ∧ w'.cell? ⟨w.heap.size, 7, none⟩ = some (.int .u64 (N n7)) ∧ Below w.heap.size w w') (((refine FEightC_keep  _ _ HC ?_); (repeat' (first | (with_reducible exact Below.refl _ _) | (with_reducible assumption) | (with_reducible refine Below.alloc ?_ ?_ _) | (with_reducible refine Below.setCell ?_ ?_ _) | (with_reducible refine Below.drew ?_) | (with_reducible refine below_dn ?_ _) | (with_reducible refine Below.trans ?_ (Below.mono (by assumption) ?_)) | go_size)))) ((first | (go_at_call 16; (with_reducible refine (fmade_c _ _ _ _ _).mono ?_); rintro e w1 ⟨rfl, hb1⟩; obtain ⟨hc1, hf1, hz1⟩ := bcell hb1; (try simp only [World.size_alloc, World.size_setCell, World.size_drew] at hc1 hf1 hz1))))
    all_goals (go_wp2_with fail; go_meet; refine ⟨_, _, rfl, rfl, FEightC_keep _ _ HC (by repeat' (first | (with_reducible exact Below.refl _ _) | (with_reducible assumption) | (with_reducible refine Below.alloc ?_ ?_ _) | (with_reducible refine Below.setCell ?_ ?_ _) | (with_reducible refine Below.drew ?_) | (with_reducible refine below_dn ?_ _) | (with_reducible refine Below.trans ?_ (Below.mono (by assumption) ?_)) | go_size)), ?_, ?_, ?_, ?_, ?_, ?_, ?_, ?_⟩ <;> (simp [*, go_sem, ↓IntWalk.iteOmega]; done))
  case rest =>
    obtain ⟨p, q, rfl, rfl, hC, a0, a1, a2, a3, b0, b1, b2, b3⟩ := hcut
    obtain ⟨n_0, n_1, n_2, n_3, n_4, n_5, n_6, n_7, hbC⟩ := hC
    have za := cell_lt a0
    have zb := cell_lt b0
    have zn := cell_lt n_0
    rw [hma'.out] at a0 a1 a2 a3
    rw [hmb'.out] at b0 b1 b2 b3
    go_wp2_with fail
    refine (fjoin_c' _ _ _ _ _ _ _ _ _).mono ?_
    rintro e wJ ⟨rfl, hbwJ⟩
    obtain ⟨hcwJ, hfwJ, hzwJ⟩ := bcell hbwJ
    (try simp only [World.size_alloc, World.size_setCell, World.size_drew] at hcwJ hfwJ hzwJ)
    go_wp2_with fail
    refine wp_region_class (FJoinsC n0 n1 n2 n3 n4 n5 n6 n7 a b (Fa.join a b) p q w wJ) (by kernel_rfl) (by kernel_rfl) ?_ ?_
    · refine ⟨?_, ?_, ?_, ?_, ?_, ?_, ?_, ?_, ?_, ?_, ?_, ?_, ?_, ?_, ?_, ?_, ?_, ?_, ?_, ?_, (by repeat' (first | (with_reducible exact Below.refl _ _) | (with_reducible assumption) | (with_reducible refine Below.alloc ?_ ?_ _) | (with_reducible refine Below.setCell ?_ ?_ _) | (with_reducible refine Below.drew ?_) | (with_reducible refine below_dn ?_ _) | (with_reducible refine Below.trans ?_ (Below.mono (by assumption) ?_)) | go_size))⟩
      all_goals first | (intro i; simp [*, go_sem, ↓IntWalk.iteOmega]; done) | (simp [*, go_sem, ↓IntWalk.iteOmega]; done)
    clear hbwS hcwS hfwS hzwS hbwJ hcwJ hfwJ hzwJ
    intro hN
    (try simp only [List.append])
    repeat (first
      | go_big_quiet_skip
      | (go_big_quiet_want
         first
           | (refine quiet_load_Fa rfl rfl (fun w' hC => by obtain ⟨k0, k1, k2, k3, k4, k5, k6, k7, k8, k9, k10, k11, k12, k13, k14, k15, k16, k17, k18, k19, k20⟩ := hC; first | exact ⟨k0, k1, k2, k3⟩ | exact ⟨k1, k2, k3, k4⟩ | exact ⟨k2, k3, k4, k5⟩ | exact ⟨k3, k4, k5, k6⟩ | exact ⟨k4, k5, k6, k7⟩ | exact ⟨k5, k6, k7, k8⟩ | exact ⟨k6, k7, k8, k9⟩ | exact ⟨k7, k8, k9, k10⟩ | exact ⟨k8, k9, k10, k11⟩ | exact ⟨k9, k10, k11, k12⟩ | exact ⟨k10, k11, k12, k13⟩ | exact ⟨k11, k12, k13, k14⟩ | exact ⟨k12, k13, k14, k15⟩ | exact ⟨k13, k14, k15, k16⟩ | exact ⟨k14, k15, k16, k17⟩ | exact ⟨k15, k16, k17, k18⟩ | exact ⟨k16, k17, k18, k19⟩) ?_
              simp only [Act.put, List.setIfInBounds_toArray, List.set_cons_succ, List.set_cons_zero]
              go_big_quiet_on)
           | (refine quiet_load_W rfl rfl (fun w' hC => by obtain ⟨k0, k1, k2, k3, k4, k5, k6, k7, k8, k9, k10, k11, k12, k13, k14, k15, k16, k17, k18, k19, k20⟩ := hC; first | exact k0 | exact k1 | exact k2 | exact k3 | exact k4 | exact k5 | exact k6 | exact k7 | exact k8 | exact k9 | exact k10 | exact k11 | exact k12 | exact k13 | exact k14 | exact k15 | exact k16 | exact k17 | exact k18 | exact k19) ?_
              simp only [Act.put, List.setIfInBounds_toArray, List.set_cons_succ, List.set_cons_zero]
              go_big_quiet_on)
           | (go_big_quiet_op
              first
                | go_big_quiet_on
                | (apply Exists.intro
                   refine ⟨fun w' hC => ?_, ?_⟩
                   · (first | (go_at_call 22; (with_reducible refine (fright_c' _ _ _ _ _).mono ?_); rintro e w1 ⟨rfl, hb1⟩) | (go_at_call 30; (with_reducible refine (fwithin_c' _ _ _ _ _ _ _ _ _).mono ?_); rintro e w1 ⟨rfl, hb1⟩) | (go_at_call 32; (with_reducible refine (fjoin_c' _ _ _ _ _ _ _ _ _).mono ?_); rintro e w1 ⟨rfl, hb1⟩) | (go_at_call 27; (with_reducible refine (fhas_c' _ _ _ _ _ _).mono ?_); rintro e w1 ⟨rfl, hb1⟩) | (go_at_call 17; (with_reducible refine (fof_c' _ _).mono ?_); rintro e w1 ⟨rfl, hb1⟩) | (go_at_call 25; (with_reducible refine (fany_c _).mono ?_); rintro e w1 ⟨rfl, hb1⟩) | (go_at_call 33; (with_reducible refine (fcut_c' _ _ _ _ _).mono ?_); rintro e w1 ⟨rfl, hb1⟩))
                     (try simp only [Tn.eta, Sp.eta, Fa.eta, ha, j1, j2, j3, j4, hc, hw])
                     exact ⟨rfl, by first | exact hC | exact FJoinsC_keep _ _ hC hb1⟩
                   go_big_quiet_on))))
    refine wpQuiet_nil ?_
    intro w9 hC
    obtain ⟨k0, k1, k2, k3, k4, k5, k6, k7, k8, k9, k10, k11, k12, k13, k14, k15, k16, k17, k18, k19, k20⟩ := hC
    have z0 := cell_lt k0
    have z8 := cell_lt k8
    have z12 := cell_lt k12
    have z16 := cell_lt k16
    go_wp2
    go_ret
    exact ⟨rfl, k20⟩

set_option maxHeartbeats 4000000 in
theorem factJoins_y (n0 n1 n2 n3 n4 n5 n6 n7 : BitVec 64) (a b : Fa) (hma : Fa.made n0 n1 n2 n3 = a) (hmb : Fa.made n4 n5 n6 n7 = b) (ha : Fa.has a n0 = true) (j1 : Fa.has (Fa.join a b) n0 = true) (j2 : Fa.has (Fa.join a b) n4 = true) (j3 : Fa.within a (Fa.join a b) = true) (j4 : Fa.within b (Fa.join a b) = true) (hc : Fa.has (Fa.cut a) (n0 &&& 4294967295#64) = true) (hw : Fa.within a b = true) (hbn : Fa.has b n0 = true) (w : World) : Calls Try.prog 8 #[.agg #[.int .u64 (N n0), .int .u64 (N n1), .int .u64 (N n2), .int .u64 (N n3), .int .u64 (N n4), .int .u64 (N n5), .int .u64 (N n6), .int .u64 (N n7)]] w fun e w' => e = .returned (.bool true) ∧ Below w.heap.size w w' := by
  have hma' := Lib.hid hma
  have hmb' := Lib.hid hmb
  clear hma hmb
  go_enter Try.func8, Try.ntmps8
  go_wp2_with fail
  refine (fshown_c _).mono ?_
  rintro e wS ⟨rfl, hbwS⟩
  obtain ⟨hcwS, hfwS, hzwS⟩ := bcell hbwS
  (try simp only [World.size_alloc, World.size_setCell, World.size_drew] at hcwS hfwS hzwS)
  go_upto_region 2 with fail
  go_cut [4, 5] (fun sa sb wx => ∃ p q : Nat, sa = .pointer (some ⟨p, 0, none⟩) ∧ sb = .pointer (some ⟨q, 0, none⟩) ∧ FEightC n0 n1 n2 n3 n4 n5 n6 n7 w wx ∧ wx.cell? ⟨p, 0, none⟩ = some (.int .u64 (N (Fa.made n0 n1 n2 n3).t.v)) ∧ wx.cell? ⟨p, 1, none⟩ = some (.int .u64 (N (Fa.made n0 n1 n2 n3).t.m)) ∧ wx.cell? ⟨p, 2, none⟩ = some (.int .u64 (N (Fa.made n0 n1 n2 n3).s.lo)) ∧ wx.cell? ⟨p, 3, none⟩ = some (.int .u64 (N (Fa.made n0 n1 n2 n3).s.hi)) ∧ wx.cell? ⟨q, 0, none⟩ = some (.int .u64 (N (Fa.made n4 n5 n6 n7).t.v)) ∧ wx.cell? ⟨q, 1, none⟩ = some (.int .u64 (N (Fa.made n4 n5 n6 n7).t.m)) ∧ wx.cell? ⟨q, 2, none⟩ = some (.int .u64 (N (Fa.made n4 n5 n6 n7).s.lo)) ∧ wx.cell? ⟨q, 3, none⟩ = some (.int .u64 (N (Fa.made n4 n5 n6 n7).s.hi)))
  case first =>
    have HC : FEightC n0 n1 n2 n3 n4 n5 n6 n7 w wS := by
      refine ⟨?_, ?_, ?_, ?_, ?_, ?_, ?_, ?_, (by repeat' (first | (with_reducible exact Below.refl _ _) | (with_reducible assumption) | (with_reducible refine Below.alloc ?_ ?_ _) | (with_reducible refine Below.setCell ?_ ?_ _) | (with_reducible refine Below.drew ?_) | (with_reducible refine below_dn ?_ _) | (with_reducible refine Below.trans ?_ (Below.mono (by assumption) ?_)) | go_size))⟩
      all_goals first | (intro i; simp [*, go_sem, ↓IntWalk.iteOmega]; done) | (simp [*, go_sem, ↓IntWalk.iteOmega]; done)
    go_region_held3 (fun w' => w'.cell? ⟨w.heap.size, 0, none⟩ = some (.int .u64 (N n0)) ∧ w'.cell? ⟨w.heap.size, 1, none⟩ = some (.int .u64 (N n1)) ∧ w'.cell? ⟨w.heap.size, 2, none⟩ = some (.int .u64 (N n2)) ∧ w'.cell? ⟨w.heap.size, 3, none⟩ = some (.int .u64 (N n3)) ∧ w'.cell? ⟨w.heap.size, 4, none⟩ = some (.int .u64 (N n4)) ∧ w'.cell? ⟨w.heap.size, 5, none⟩ = some (.int .u64 (N n5)) ∧ w'.cell? ⟨w.heap.size, 6, none⟩ = some (.int .u64 (N n6)) ∧ w'.cell? ⟨w.heap.size, 7, none⟩ = some (.int .u64 (N n7)) ∧ Below w.heap.size w w') (((refine FEightC_keep  _ _ HC ?_); (repeat' (first | (with_reducible exact Below.refl _ _) | (with_reducible assumption) | (with_reducible refine Below.alloc ?_ ?_ _) | (with_reducible refine Below.setCell ?_ ?_ _) | (with_reducible refine Below.drew ?_) | (with_reducible refine below_dn ?_ _) | (with_reducible refine Below.trans ?_ (Below.mono (by assumption) ?_)) | go_size)))) ((first | (go_at_call 16; (with_reducible refine (fmade_c _ _ _ _ _).mono ?_); rintro e w1 ⟨rfl, hb1⟩; obtain ⟨hc1, hf1, hz1⟩ := bcell hb1; (try simp only [World.size_alloc, World.size_setCell, World.size_drew] at hc1 hf1 hz1))))
    all_goals (go_wp2_with fail; go_meet; refine ⟨_, _, rfl, rfl, FEightC_keep _ _ HC (by repeat' (first | (with_reducible exact Below.refl _ _) | (with_reducible assumption) | (with_reducible refine Below.alloc ?_ ?_ _) | (with_reducible refine Below.setCell ?_ ?_ _) | (with_reducible refine Below.drew ?_) | (with_reducible refine below_dn ?_ _) | (with_reducible refine Below.trans ?_ (Below.mono (by assumption) ?_)) | go_size)), ?_, ?_, ?_, ?_, ?_, ?_, ?_, ?_⟩ <;> (simp [*, go_sem, ↓IntWalk.iteOmega]; done))
  case rest =>
    obtain ⟨p, q, rfl, rfl, hC, a0, a1, a2, a3, b0, b1, b2, b3⟩ := hcut
    obtain ⟨n_0, n_1, n_2, n_3, n_4, n_5, n_6, n_7, hbC⟩ := hC
    have za := cell_lt a0
    have zb := cell_lt b0
    have zn := cell_lt n_0
    rw [hma'.out] at a0 a1 a2 a3
    rw [hmb'.out] at b0 b1 b2 b3
    go_wp2_with fail
    refine (fjoin_c' _ _ _ _ _ _ _ _ _).mono ?_
    rintro e wJ ⟨rfl, hbwJ⟩
    obtain ⟨hcwJ, hfwJ, hzwJ⟩ := bcell hbwJ
    (try simp only [World.size_alloc, World.size_setCell, World.size_drew] at hcwJ hfwJ hzwJ)
    go_wp2_with fail
    refine wp_region_class (FJoinsC n0 n1 n2 n3 n4 n5 n6 n7 a b (Fa.join a b) p q w wJ) (by kernel_rfl) (by kernel_rfl) ?_ ?_
    · refine ⟨?_, ?_, ?_, ?_, ?_, ?_, ?_, ?_, ?_, ?_, ?_, ?_, ?_, ?_, ?_, ?_, ?_, ?_, ?_, ?_, (by repeat' (first | (with_reducible exact Below.refl _ _) | (with_reducible assumption) | (with_reducible refine Below.alloc ?_ ?_ _) | (with_reducible refine Below.setCell ?_ ?_ _) | (with_reducible refine Below.drew ?_) | (with_reducible refine below_dn ?_ _) | (with_reducible refine Below.trans ?_ (Below.mono (by assumption) ?_)) | go_size))⟩
      all_goals first | (intro i; simp [*, go_sem, ↓IntWalk.iteOmega]; done) | (simp [*, go_sem, ↓IntWalk.iteOmega]; done)
    clear hbwS hcwS hfwS hzwS hbwJ hcwJ hfwJ hzwJ
    intro hN
    (try simp only [List.append])
    repeat (first
      | go_big_quiet_skip
      | (go_big_quiet_want
         first
           | (refine quiet_load_Fa rfl rfl (fun w' hC => by obtain ⟨k0, k1, k2, k3, k4, k5, k6, k7, k8, k9, k10, k11, k12, k13, k14, k15, k16, k17, k18, k19, k20⟩ := hC; first | exact ⟨k0, k1, k2, k3⟩ | exact ⟨k1, k2, k3, k4⟩ | exact ⟨k2, k3, k4, k5⟩ | exact ⟨k3, k4, k5, k6⟩ | exact ⟨k4, k5, k6, k7⟩ | exact ⟨k5, k6, k7, k8⟩ | exact ⟨k6, k7, k8, k9⟩ | exact ⟨k7, k8, k9, k10⟩ | exact ⟨k8, k9, k10, k11⟩ | exact ⟨k9, k10, k11, k12⟩ | exact ⟨k10, k11, k12, k13⟩ | exact ⟨k11, k12, k13, k14⟩ | exact ⟨k12, k13, k14, k15⟩ | exact ⟨k13, k14, k15, k16⟩ | exact ⟨k14, k15, k16, k17⟩ | exact ⟨k15, k16, k17, k18⟩ | exact ⟨k16, k17, k18, k19⟩) ?_
              simp only [Act.put, List.setIfInBounds_toArray, List.set_cons_succ, List.set_cons_zero]
              go_big_quiet_on)
           | (refine quiet_load_W rfl rfl (fun w' hC => by obtain ⟨k0, k1, k2, k3, k4, k5, k6, k7, k8, k9, k10, k11, k12, k13, k14, k15, k16, k17, k18, k19, k20⟩ := hC; first | exact k0 | exact k1 | exact k2 | exact k3 | exact k4 | exact k5 | exact k6 | exact k7 | exact k8 | exact k9 | exact k10 | exact k11 | exact k12 | exact k13 | exact k14 | exact k15 | exact k16 | exact k17 | exact k18 | exact k19) ?_
              simp only [Act.put, List.setIfInBounds_toArray, List.set_cons_succ, List.set_cons_zero]
              go_big_quiet_on)
           | (go_big_quiet_op
              first
                | go_big_quiet_on
                | (apply Exists.intro
                   refine ⟨fun w' hC => ?_, ?_⟩
                   · (first | (go_at_call 22; (with_reducible refine (fright_c' _ _ _ _ _).mono ?_); rintro e w1 ⟨rfl, hb1⟩) | (go_at_call 30; (with_reducible refine (fwithin_c' _ _ _ _ _ _ _ _ _).mono ?_); rintro e w1 ⟨rfl, hb1⟩) | (go_at_call 32; (with_reducible refine (fjoin_c' _ _ _ _ _ _ _ _ _).mono ?_); rintro e w1 ⟨rfl, hb1⟩) | (go_at_call 27; (with_reducible refine (fhas_c' _ _ _ _ _ _).mono ?_); rintro e w1 ⟨rfl, hb1⟩) | (go_at_call 17; (with_reducible refine (fof_c' _ _).mono ?_); rintro e w1 ⟨rfl, hb1⟩) | (go_at_call 25; (with_reducible refine (fany_c _).mono ?_); rintro e w1 ⟨rfl, hb1⟩) | (go_at_call 33; (with_reducible refine (fcut_c' _ _ _ _ _).mono ?_); rintro e w1 ⟨rfl, hb1⟩))
                     (try simp only [Tn.eta, Sp.eta, Fa.eta, ha, j1, j2, j3, j4, hc, hw, hbn])
                     exact ⟨rfl, by first | exact hC | exact FJoinsC_keep _ _ hC hb1⟩
                   go_big_quiet_on))))
    refine wpQuiet_nil ?_
    intro w9 hC
    obtain ⟨k0, k1, k2, k3, k4, k5, k6, k7, k8, k9, k10, k11, k12, k13, k14, k15, k16, k17, k18, k19, k20⟩ := hC
    have z0 := cell_lt k0
    have z8 := cell_lt k8
    have z12 := cell_lt k12
    have z16 := cell_lt k16
    go_wp2
    go_ret
    exact ⟨rfl, k20⟩

theorem factJoins_walk (n0 n1 n2 n3 n4 n5 n6 n7 : BitVec 64) (w : World) : Calls Try.prog 8 #[.agg #[.int .u64 (N n0), .int .u64 (N n1), .int .u64 (N n2), .int .u64 (N n3), .int .u64 (N n4), .int .u64 (N n5), .int .u64 (N n6), .int .u64 (N n7)]] w fun e w' => e = .returned (.bool true) ∧ Below w.heap.size w w' := by
  obtain ⟨_, oa, ma⟩ := Fa.made_spec n0 n1 n2 n3
  obtain ⟨_, ob, mb⟩ := Fa.made_spec n4 n5 n6 n7
  obtain ⟨oj, sa, sb⟩ := Fa.join_spec oa ob
  obtain ⟨oc, mc⟩ := Fa.cut_may oa ma
  rw [Fa.low32] at mc
  have ha := Fa.has_iff.2 ⟨oa, ma⟩
  have j1 := Fa.has_iff.2 ⟨oj, Fa.sub_may sa ma⟩
  have j2 := Fa.has_iff.2 ⟨oj, Fa.sub_may sb mb⟩
  have j3 := Fa.within_iff.2 ⟨oa, oj, sa⟩
  have j4 := Fa.within_iff.2 ⟨ob, oj, sb⟩
  have hc := Fa.has_iff.2 ⟨oc, mc⟩
  cases hw : Fa.within (Fa.made n0 n1 n2 n3) (Fa.made n4 n5 n6 n7)
  · exact factJoins_n n0 n1 n2 n3 n4 n5 n6 n7 _ _ rfl rfl ha j1 j2 j3 j4 hc hw w
  · exact factJoins_y n0 n1 n2 n3 n4 n5 n6 n7 _ _ rfl rfl ha j1 j2 j3 j4 hc hw (Fa.has_iff.2 ⟨ob, Fa.sub_may (Fa.within_iff.1 hw).2.2 ma⟩) w

end Hk
