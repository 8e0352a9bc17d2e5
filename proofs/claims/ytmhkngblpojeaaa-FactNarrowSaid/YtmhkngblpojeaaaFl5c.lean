/- The statement FactNarrow of the Go text, a case of it: it returns true, and old memory is as it was. No condition but those in each statement. -/
import Derived.Test.YtmhkngblpojeaaaProg
import Derived.Test.YtmhkngblpojeaaaGp
import Derived.Test.YtmhkngblpojeaaaGf
import Derived.Test.YtmhkngblpojeaaaFl1
import Derived.Test.YtmhkngblpojeaaaRc5
import Derived.Test.YtmhkngblpojeaaaGl
import Derived.Deep.RegionHeld3
import Derived.Deep.DeepCutAuto
import Derived.Test.YtmhkngblpojeaaaFl5a
namespace Hk
open Go Go.RowKit Go.Proofs
set_option linter.unusedSimpArgs false
set_option linter.unusedVariables false
set_option maxRecDepth 100000
attribute [go_sem] Tn.eta Alu.val_some Alu.err_some Alu.val_none Alu.err_none
set_option maxHeartbeats 4000000 in
theorem factNarrow_yn (op off : Int) (wd : Bool) (n0 n1 n2 n3 n4 n5 n6 n7 : BitVec 64) (a b : Fa) (hma : Fa.made n0 n1 n2 n3 = a) (hmb : Fa.made n4 n5 n6 n7 = b) (f : Fa) (d1 : (Fa.do_ op false off a b).getD Fa.zero = f) (d1e : (Fa.do_ op false off a b).isSome = true) (l1 : f.s.hi < 4294967296#64) (l2 : (f.t.v ||| f.t.m) < 4294967296#64) (z : BitVec 64) (g : Fa) (hz : Alu.go op wd off n0 n4 = none) (d2 : (Fa.do_ op wd off (Fa.of n0) (Fa.of n4)).getD Fa.zero = g) (d2e : (Fa.do_ op wd off (Fa.of n0) (Fa.of n4)).isSome = false) (w : World) : Calls Try.prog 4 #[.int .u8 op, .int .i16 off, .bool wd, .agg #[.int .u64 (N n0), .int .u64 (N n1), .int .u64 (N n2), .int .u64 (N n3), .int .u64 (N n4), .int .u64 (N n5), .int .u64 (N n6), .int .u64 (N n7)]] w fun e w' => e = .returned (.bool true) ∧ Below w.heap.size w w' := by
  have hma' := Lib.hid hma
  have hmb' := Lib.hid hmb
  clear hma hmb
  go_enter Try.func4, Try.ntmps4
  go_wp2_with fail
  refine (fshown_c _).mono ?_
  rintro e wS ⟨rfl, hbwS⟩
  obtain ⟨hcwS, hfwS, hzwS⟩ := bcell hbwS
  (try simp only [World.size_alloc, World.size_setCell, World.size_drew] at hcwS hfwS hzwS)
  go_upto_region 2 with fail
  go_cut [10, 11] (fun sa sb wx => ∃ p q : Nat, sa = .pointer (some ⟨p, 0, none⟩) ∧ sb = .pointer (some ⟨q, 0, none⟩) ∧ FEightC n0 n1 n2 n3 n4 n5 n6 n7 w wx ∧ wx.cell? ⟨p, 0, none⟩ = some (.int .u64 (N (Fa.made n0 n1 n2 n3).t.v)) ∧ wx.cell? ⟨p, 1, none⟩ = some (.int .u64 (N (Fa.made n0 n1 n2 n3).t.m)) ∧ wx.cell? ⟨p, 2, none⟩ = some (.int .u64 (N (Fa.made n0 n1 n2 n3).s.lo)) ∧ wx.cell? ⟨p, 3, none⟩ = some (.int .u64 (N (Fa.made n0 n1 n2 n3).s.hi)) ∧ wx.cell? ⟨q, 0, none⟩ = some (.int .u64 (N (Fa.made n4 n5 n6 n7).t.v)) ∧ wx.cell? ⟨q, 1, none⟩ = some (.int .u64 (N (Fa.made n4 n5 n6 n7).t.m)) ∧ wx.cell? ⟨q, 2, none⟩ = some (.int .u64 (N (Fa.made n4 n5 n6 n7).s.lo)) ∧ wx.cell? ⟨q, 3, none⟩ = some (.int .u64 (N (Fa.made n4 n5 n6 n7).s.hi)))
  case first =>
    have HC : FEightC n0 n1 n2 n3 n4 n5 n6 n7 w wS := by
      refine ⟨?_, ?_, ?_, ?_, ?_, ?_, ?_, ?_, (by repeat' (first | (with_reducible exact Below.refl _ _) | (with_reducible assumption) | (with_reducible refine Below.alloc ?_ ?_ _) | (with_reducible refine Below.setCell ?_ ?_ _) | (with_reducible refine Below.drew ?_) | (with_reducible refine below_dn ?_ _) | (with_reducible refine Below.trans ?_ (Below.mono (by assumption) ?_)) | go_size))⟩
      all_goals first | (intro i; simp [*, go_sem, ↓IntWalk.iteOmega]; done) | (simp [*, go_sem, ↓IntWalk.iteOmega]; done)
    go_region_held3 (fun w' => w'.cell? ⟨w.heap.size, 0, none⟩ = some (.int .u64 (N n0)) ∧ w'.cell? ⟨w.heap.size, 1, none⟩ = some (.int .u64 (N n1)) ∧ w'.cell? ⟨w.heap.size, 2, none⟩ = some (.int .u64 (N n2)) ∧ w'.cell? ⟨w.heap.size, 3, none⟩ = some (.int .u64 (N n3)) ∧ w'.cell? ⟨w.heap.size, 4, none⟩ = some (.int .u64 (N n4)) ∧ w'.cell? ⟨w.heap.size, 5, none⟩ = some (.int .u64 (N n5)) ∧ w'.cell? ⟨w.heap.size, 6, none⟩ = some (.int .u64 (N n6)) ∧ w'.cell? ⟨w.heap.size, 7, none⟩ = some (.int .u64 (N n7)) ∧ Below w.heap.size w w') (((refine FEightC_keep  _ _ HC ?_); (repeat' (first | (with_reducible exact Below.refl _ _) | (with_reducible assumption) | (with_reducible refine Below.alloc ?_ ?_ _) | (with_reducible refine Below.setCell ?_ ?_ _) | (with_reducible refine Below.drew ?_) | (with_reducible refine below_dn ?_ _) | (with_reducible refine Below.trans ?_ (Below.mono (by assumption) ?_)) | go_size)))) ((first | (go_at_call 16; (with_reducible refine (fmade_c _ _ _ _ _).mono ?_); rintro e w1 ⟨rfl, hb1⟩; obtain ⟨hc1, hf1, hz1⟩ := bcell hb1; (try simp only [World.size_alloc, World.size_setCell, World.size_drew] at hc1 hf1 hz1))))
    all_goals (go_wp2_with fail; go_meet; refine ⟨_, _, rfl, rfl, FEightC_keep _ _ HC (by repeat' (first | (with_reducible exact Below.refl _ _) | (with_reducible assumption) | (with_reducible refine Below.alloc ?_ ?_ _) | (with_reducible refine Below.setCell ?_ ?_ _) | (with_reducible refine Below.drew ?_) | (with_reducible refine below_dn ?_ _) | (with_reducible refine Below.trans ?_ (Below.mono (by assumption) ?_)) | go_size)), ?_, ?_, ?_, ?_, ?_, ?_, ?_, ?_⟩ <;> (simp [*, go_sem, ↓IntWalk.iteOmega]; done))
  case rest =>
    obtain ⟨p, q, rfl, rfl, hC, a0, a1, a2, a3, b0, b1, b2, b3⟩ := hcut
    obtain ⟨n_0, n_1, n_2, n_3, n_4, n_5, n_6, n_7, hbC⟩ := hC
    have za := cell_lt a0
    have zb := cell_lt b0
    have zn := cell_lt n_0
    rw [hma'.out] at a0 a1 a2 a3
    rw [hmb'.out] at b0 b1 b2 b3
    go_wp2_with fail
    refine (fdo_c' _ _ _ _ _ _ _ _ _ _ _ _).mono ?_
    rintro e wF ⟨rfl, hbwF⟩
    obtain ⟨hcwF, hfwF, hzwF⟩ := bcell hbwF
    (try simp only [World.size_alloc, World.size_setCell, World.size_drew] at hcwF hfwF hzwF)
    simp only [Tn.eta, Sp.eta, Fa.eta, d1, d1e, d2e, if_true, Bool.false_eq_true, if_false]
    go_upto_region 4 with fail
    go_cut [14, 15] (fun sg sh wx => ∃ r : Nat, sg = .pointer (some ⟨r, 0, none⟩) ∧ sh = .int .i64 1 ∧ FNarrowC n0 n1 n2 n3 n4 n5 n6 n7 a b f p q w wF wx ∧ wx.cell? ⟨r, 0, none⟩ = some (.int .u64 (N g.t.v)) ∧ wx.cell? ⟨r, 1, none⟩ = some (.int .u64 (N g.t.m)) ∧ wx.cell? ⟨r, 2, none⟩ = some (.int .u64 (N g.s.lo)) ∧ wx.cell? ⟨r, 3, none⟩ = some (.int .u64 (N g.s.hi)))
    case first =>
      have HC : FNarrowC n0 n1 n2 n3 n4 n5 n6 n7 a b f p q w wF (wF.alloc (.cells #[.int .u64 (N f.t.v), .int .u64 (N f.t.m), .int .u64 (N f.s.lo), .int .u64 (N f.s.hi)] 29)) := by
        refine ⟨?_, ?_, ?_, ?_, ?_, ?_, ?_, ?_, ?_, ?_, ?_, ?_, ?_, ?_, ?_, ?_, ?_, ?_, ?_, ?_, (by repeat' (first | (with_reducible exact Below.refl _ _) | (with_reducible assumption) | (with_reducible refine Below.alloc ?_ ?_ _) | (with_reducible refine Below.setCell ?_ ?_ _) | (with_reducible refine Below.drew ?_) | (with_reducible refine below_dn ?_ _) | (with_reducible refine Below.trans ?_ (Below.mono (by assumption) ?_)) | go_size))⟩
        all_goals first | (intro i; simp [*, go_sem, ↓IntWalk.iteOmega]; done) | (simp [*, go_sem, ↓IntWalk.iteOmega]; done)
      clear hbwS hcwS hfwS hzwS
      go_region_held3 (fun w' => w'.cell? ⟨w.heap.size, 0, none⟩ = some (.int .u64 (N n0)) ∧ w'.cell? ⟨w.heap.size, 1, none⟩ = some (.int .u64 (N n1)) ∧ w'.cell? ⟨w.heap.size, 2, none⟩ = some (.int .u64 (N n2)) ∧ w'.cell? ⟨w.heap.size, 3, none⟩ = some (.int .u64 (N n3)) ∧ w'.cell? ⟨w.heap.size, 4, none⟩ = some (.int .u64 (N n4)) ∧ w'.cell? ⟨w.heap.size, 5, none⟩ = some (.int .u64 (N n5)) ∧ w'.cell? ⟨w.heap.size, 6, none⟩ = some (.int .u64 (N n6)) ∧ w'.cell? ⟨w.heap.size, 7, none⟩ = some (.int .u64 (N n7)) ∧ w'.cell? ⟨p, 0, none⟩ = some (.int .u64 (N a.t.v)) ∧ w'.cell? ⟨p, 1, none⟩ = some (.int .u64 (N a.t.m)) ∧ w'.cell? ⟨p, 2, none⟩ = some (.int .u64 (N a.s.lo)) ∧ w'.cell? ⟨p, 3, none⟩ = some (.int .u64 (N a.s.hi)) ∧ w'.cell? ⟨q, 0, none⟩ = some (.int .u64 (N b.t.v)) ∧ w'.cell? ⟨q, 1, none⟩ = some (.int .u64 (N b.t.m)) ∧ w'.cell? ⟨q, 2, none⟩ = some (.int .u64 (N b.s.lo)) ∧ w'.cell? ⟨q, 3, none⟩ = some (.int .u64 (N b.s.hi)) ∧ w'.cell? ⟨wF.heap.size, 0, none⟩ = some (.int .u64 (N f.t.v)) ∧ w'.cell? ⟨wF.heap.size, 1, none⟩ = some (.int .u64 (N f.t.m)) ∧ w'.cell? ⟨wF.heap.size, 2, none⟩ = some (.int .u64 (N f.s.lo)) ∧ w'.cell? ⟨wF.heap.size, 3, none⟩ = some (.int .u64 (N f.s.hi)) ∧ Below w.heap.size w w') (((refine FNarrowC_keep  _ _ HC ?_); (repeat' (first | (with_reducible exact Below.refl _ _) | (with_reducible assumption) | (with_reducible refine Below.alloc ?_ ?_ _) | (with_reducible refine Below.setCell ?_ ?_ _) | (with_reducible refine Below.drew ?_) | (with_reducible refine below_dn ?_ _) | (with_reducible refine Below.trans ?_ (Below.mono (by assumption) ?_)) | go_size)))) ((first | (go_at_call 17; (with_reducible refine (fof_c' _ _).mono ?_); rintro e w1 ⟨rfl, hb1⟩; obtain ⟨hc1, hf1, hz1⟩ := bcell hb1; (try simp only [World.size_alloc, World.size_setCell, World.size_drew] at hc1 hf1 hz1)) | (go_at_call 14; (with_reducible refine (fdo_c' _ _ _ _ _ _ _ _ _ _ _ _).mono ?_); rintro e w1 ⟨rfl, hb1⟩; obtain ⟨hc1, hf1, hz1⟩ := bcell hb1; (try simp only [World.size_alloc, World.size_setCell, World.size_drew] at hc1 hf1 hz1); (try simp only [Tn.eta, Sp.eta, Fa.eta, d2, d1e, d2e, if_true, Bool.false_eq_true, if_false]))))
      all_goals (go_wp2_with fail; go_meet; refine ⟨_, rfl, rfl, FNarrowC_keep _ _ HC (by repeat' (first | (with_reducible exact Below.refl _ _) | (with_reducible assumption) | (with_reducible refine Below.alloc ?_ ?_ _) | (with_reducible refine Below.setCell ?_ ?_ _) | (with_reducible refine Below.drew ?_) | (with_reducible refine below_dn ?_ _) | (with_reducible refine Below.trans ?_ (Below.mono (by assumption) ?_)) | go_size)), ?_, ?_, ?_, ?_⟩ <;> (simp [*, go_sem, ↓IntWalk.iteOmega]; done))
    case rest =>
      obtain ⟨r, rfl, rfl, hC, g0, g1, g2, g3⟩ := hcut
      obtain ⟨m0, m1, m2, m3, m4, m5, m6, m7, m8, m9, m10, m11, m12, m13, m14, m15, m16, m17, m18, m19, m20⟩ := hC
      have zg := cell_lt g0
      have zf := cell_lt m16
      go_wp2_with fail
      refine (rdo_c _ _ _ _ _ _).mono ?_
      rintro e wR ⟨rfl, hbwR⟩
      obtain ⟨hcwR, hfwR, hzwR⟩ := bcell hbwR
      (try simp only [World.size_alloc, World.size_setCell, World.size_drew] at hcwR hfwR hzwR)
      simp only [hz, Alu.val_some, Alu.err_some, Alu.val_none, Alu.err_none]
      go_wp2_with fail
      refine wp_region_class (FNarrowD f g wF.heap.size r w) (by kernel_rfl) (by kernel_rfl) ?_ ?_
      · refine ⟨?_, ?_, ?_, ?_, ?_, ?_, ?_, ?_, (by repeat' (first | (with_reducible exact Below.refl _ _) | (with_reducible assumption) | (with_reducible refine Below.alloc ?_ ?_ _) | (with_reducible refine Below.setCell ?_ ?_ _) | (with_reducible refine Below.drew ?_) | (with_reducible refine below_dn ?_ _) | (with_reducible refine Below.trans ?_ (Below.mono (by assumption) ?_)) | go_size))⟩
        all_goals first | (intro i; simp [*, go_sem, ↓IntWalk.iteOmega]; done) | (simp [*, go_sem, ↓IntWalk.iteOmega]; done)
      clear hbwR hcwR hfwR hzwR
      intro hN
      (try simp only [List.append])
      repeat (first
        | go_big_quiet_skip
        | (go_big_quiet_want
           first
             | (refine quiet_load_Fa rfl rfl (fun w' hC => by obtain ⟨k0, k1, k2, k3, k4, k5, k6, k7, k8⟩ := hC; first | exact ⟨k0, k1, k2, k3⟩ | exact ⟨k1, k2, k3, k4⟩ | exact ⟨k2, k3, k4, k5⟩ | exact ⟨k3, k4, k5, k6⟩ | exact ⟨k4, k5, k6, k7⟩) ?_
                simp only [Act.put, List.setIfInBounds_toArray, List.set_cons_succ, List.set_cons_zero]
                go_big_quiet_on)
             | (refine quiet_load_W rfl rfl (fun w' hC => by obtain ⟨k0, k1, k2, k3, k4, k5, k6, k7, k8⟩ := hC; first | exact k0 | exact k1 | exact k2 | exact k3 | exact k4 | exact k5 | exact k6 | exact k7) ?_
                simp only [Act.put, List.setIfInBounds_toArray, List.set_cons_succ, List.set_cons_zero]
                go_big_quiet_on)
             | (go_big_quiet_op
                first
                  | go_big_quiet_on
                  | (apply Exists.intro
                     refine ⟨fun w' hC => ?_, ?_⟩
                     · (first | (go_at_call 17; (with_reducible refine (fof_c' _ _).mono ?_); rintro e w1 ⟨rfl, hb1⟩))
                       (try simp only [Tn.eta, Sp.eta, Fa.eta])
                       exact ⟨rfl, by first | exact hC | exact FNarrowD_keep _ _ hC hb1⟩
                     go_big_quiet_on))))
      refine wpQuiet_nil ?_
      intro w9 hC
      obtain ⟨k0, k1, k2, k3, k4, k5, k6, k7, k8⟩ := hC
      have z0 := cell_lt k0
      have z4 := cell_lt k4
      go_wp2
      go_ret
      exact ⟨rfl, k8⟩

set_option maxHeartbeats 4000000 in
theorem factNarrow_yy (op off : Int) (wd : Bool) (n0 n1 n2 n3 n4 n5 n6 n7 : BitVec 64) (a b : Fa) (hma : Fa.made n0 n1 n2 n3 = a) (hmb : Fa.made n4 n5 n6 n7 = b) (f : Fa) (d1 : (Fa.do_ op false off a b).getD Fa.zero = f) (d1e : (Fa.do_ op false off a b).isSome = true) (l1 : f.s.hi < 4294967296#64) (l2 : (f.t.v ||| f.t.m) < 4294967296#64) (z : BitVec 64) (g : Fa) (hz : Alu.go op wd off n0 n4 = some z) (d2 : (Fa.do_ op wd off (Fa.of n0) (Fa.of n4)).getD Fa.zero = Fa.of z) (d2e : (Fa.do_ op wd off (Fa.of n0) (Fa.of n4)).isSome = true) (w : World) : Calls Try.prog 4 #[.int .u8 op, .int .i16 off, .bool wd, .agg #[.int .u64 (N n0), .int .u64 (N n1), .int .u64 (N n2), .int .u64 (N n3), .int .u64 (N n4), .int .u64 (N n5), .int .u64 (N n6), .int .u64 (N n7)]] w fun e w' => e = .returned (.bool true) ∧ Below w.heap.size w w' := by
  have hma' := Lib.hid hma
  have hmb' := Lib.hid hmb
  clear hma hmb
  go_enter Try.func4, Try.ntmps4
  go_wp2_with fail
  refine (fshown_c _).mono ?_
  rintro e wS ⟨rfl, hbwS⟩
  obtain ⟨hcwS, hfwS, hzwS⟩ := bcell hbwS
  (try simp only [World.size_alloc, World.size_setCell, World.size_drew] at hcwS hfwS hzwS)
  go_upto_region 2 with fail
  go_cut [10, 11] (fun sa sb wx => ∃ p q : Nat, sa = .pointer (some ⟨p, 0, none⟩) ∧ sb = .pointer (some ⟨q, 0, none⟩) ∧ FEightC n0 n1 n2 n3 n4 n5 n6 n7 w wx ∧ wx.cell? ⟨p, 0, none⟩ = some (.int .u64 (N (Fa.made n0 n1 n2 n3).t.v)) ∧ wx.cell? ⟨p, 1, none⟩ = some (.int .u64 (N (Fa.made n0 n1 n2 n3).t.m)) ∧ wx.cell? ⟨p, 2, none⟩ = some (.int .u64 (N (Fa.made n0 n1 n2 n3).s.lo)) ∧ wx.cell? ⟨p, 3, none⟩ = some (.int .u64 (N (Fa.made n0 n1 n2 n3).s.hi)) ∧ wx.cell? ⟨q, 0, none⟩ = some (.int .u64 (N (Fa.made n4 n5 n6 n7).t.v)) ∧ wx.cell? ⟨q, 1, none⟩ = some (.int .u64 (N (Fa.made n4 n5 n6 n7).t.m)) ∧ wx.cell? ⟨q, 2, none⟩ = some (.int .u64 (N (Fa.made n4 n5 n6 n7).s.lo)) ∧ wx.cell? ⟨q, 3, none⟩ = some (.int .u64 (N (Fa.made n4 n5 n6 n7).s.hi)))
  case first =>
    have HC : FEightC n0 n1 n2 n3 n4 n5 n6 n7 w wS := by
      refine ⟨?_, ?_, ?_, ?_, ?_, ?_, ?_, ?_, (by repeat' (first | (with_reducible exact Below.refl _ _) | (with_reducible assumption) | (with_reducible refine Below.alloc ?_ ?_ _) | (with_reducible refine Below.setCell ?_ ?_ _) | (with_reducible refine Below.drew ?_) | (with_reducible refine below_dn ?_ _) | (with_reducible refine Below.trans ?_ (Below.mono (by assumption) ?_)) | go_size))⟩
      all_goals first | (intro i; simp [*, go_sem, ↓IntWalk.iteOmega]; done) | (simp [*, go_sem, ↓IntWalk.iteOmega]; done)
    go_region_held3 (fun w' => w'.cell? ⟨w.heap.size, 0, none⟩ = some (.int .u64 (N n0)) ∧ w'.cell? ⟨w.heap.size, 1, none⟩ = some (.int .u64 (N n1)) ∧ w'.cell? ⟨w.heap.size, 2, none⟩ = some (.int .u64 (N n2)) ∧ w'.cell? ⟨w.heap.size, 3, none⟩ = some (.int .u64 (N n3)) ∧ w'.cell? ⟨w.heap.size, 4, none⟩ = some (.int .u64 (N n4)) ∧ w'.cell? ⟨w.heap.size, 5, none⟩ = some (.int .u64 (N n5)) ∧ w'.cell? ⟨w.heap.size, 6, none⟩ = some (.int .u64 (N n6)) ∧ w'.cell? ⟨w.heap.size, 7, none⟩ = some (.int .u64 (N n7)) ∧ Below w.heap.size w w') (((refine FEightC_keep  _ _ HC ?_); (repeat' (first | (with_reducible exact Below.refl _ _) | (with_reducible assumption) | (with_reducible refine Below.alloc ?_ ?_ _) | (with_reducible refine Below.setCell ?_ ?_ _) | (with_reducible refine Below.drew ?_) | (with_reducible refine below_dn ?_ _) | (with_reducible refine Below.trans ?_ (Below.mono (by assumption) ?_)) | go_size)))) ((first | (go_at_call 16; (with_reducible refine (fmade_c _ _ _ _ _).mono ?_); rintro e w1 ⟨rfl, hb1⟩; obtain ⟨hc1, hf1, hz1⟩ := bcell hb1; (try simp only [World.size_alloc, World.size_setCell, World.size_drew] at hc1 hf1 hz1))))
    all_goals (go_wp2_with fail; go_meet; refine ⟨_, _, rfl, rfl, FEightC_keep _ _ HC (by repeat' (first | (with_reducible exact Below.refl _ _) | (with_reducible assumption) | (with_reducible refine Below.alloc ?_ ?_ _) | (with_reducible refine Below.setCell ?_ ?_ _) | (with_reducible refine Below.drew ?_) | (with_reducible refine below_dn ?_ _) | (with_reducible refine Below.trans ?_ (Below.mono (by assumption) ?_)) | go_size)), ?_, ?_, ?_, ?_, ?_, ?_, ?_, ?_⟩ <;> (simp [*, go_sem, ↓IntWalk.iteOmega]; done))
  case rest =>
    obtain ⟨p, q, rfl, rfl, hC, a0, a1, a2, a3, b0, b1, b2, b3⟩ := hcut
    obtain ⟨n_0, n_1, n_2, n_3, n_4, n_5, n_6, n_7, hbC⟩ := hC
    have za := cell_lt a0
    have zb := cell_lt b0
    have zn := cell_lt n_0
    rw [hma'.out] at a0 a1 a2 a3
    rw [hmb'.out] at b0 b1 b2 b3
    go_wp2_with fail
    refine (fdo_c' _ _ _ _ _ _ _ _ _ _ _ _).mono ?_
    rintro e wF ⟨rfl, hbwF⟩
    obtain ⟨hcwF, hfwF, hzwF⟩ := bcell hbwF
    (try simp only [World.size_alloc, World.size_setCell, World.size_drew] at hcwF hfwF hzwF)
    simp only [Tn.eta, Sp.eta, Fa.eta, d1, d1e, d2e, if_true, Bool.false_eq_true, if_false]
    go_upto_region 4 with fail
    go_cut [14, 15] (fun sg sh wx => ∃ r : Nat, sg = .pointer (some ⟨r, 0, none⟩) ∧ sh = .int .i64 0 ∧ FNarrowC n0 n1 n2 n3 n4 n5 n6 n7 a b f p q w wF wx ∧ wx.cell? ⟨r, 0, none⟩ = some (.int .u64 (N (Fa.of z).t.v)) ∧ wx.cell? ⟨r, 1, none⟩ = some (.int .u64 (N (Fa.of z).t.m)) ∧ wx.cell? ⟨r, 2, none⟩ = some (.int .u64 (N (Fa.of z).s.lo)) ∧ wx.cell? ⟨r, 3, none⟩ = some (.int .u64 (N (Fa.of z).s.hi)))
    case first =>
      have HC : FNarrowC n0 n1 n2 n3 n4 n5 n6 n7 a b f p q w wF (wF.alloc (.cells #[.int .u64 (N f.t.v), .int .u64 (N f.t.m), .int .u64 (N f.s.lo), .int .u64 (N f.s.hi)] 29)) := by
        refine ⟨?_, ?_, ?_, ?_, ?_, ?_, ?_, ?_, ?_, ?_, ?_, ?_, ?_, ?_, ?_, ?_, ?_, ?_, ?_, ?_, (by repeat' (first | (with_reducible exact Below.refl _ _) | (with_reducible assumption) | (with_reducible refine Below.alloc ?_ ?_ _) | (with_reducible refine Below.setCell ?_ ?_ _) | (with_reducible refine Below.drew ?_) | (with_reducible refine below_dn ?_ _) | (with_reducible refine Below.trans ?_ (Below.mono (by assumption) ?_)) | go_size))⟩
        all_goals first | (intro i; simp [*, go_sem, ↓IntWalk.iteOmega]; done) | (simp [*, go_sem, ↓IntWalk.iteOmega]; done)
      clear hbwS hcwS hfwS hzwS
      go_region_held3 (fun w' => w'.cell? ⟨w.heap.size, 0, none⟩ = some (.int .u64 (N n0)) ∧ w'.cell? ⟨w.heap.size, 1, none⟩ = some (.int .u64 (N n1)) ∧ w'.cell? ⟨w.heap.size, 2, none⟩ = some (.int .u64 (N n2)) ∧ w'.cell? ⟨w.heap.size, 3, none⟩ = some (.int .u64 (N n3)) ∧ w'.cell? ⟨w.heap.size, 4, none⟩ = some (.int .u64 (N n4)) ∧ w'.cell? ⟨w.heap.size, 5, none⟩ = some (.int .u64 (N n5)) ∧ w'.cell? ⟨w.heap.size, 6, none⟩ = some (.int .u64 (N n6)) ∧ w'.cell? ⟨w.heap.size, 7, none⟩ = some (.int .u64 (N n7)) ∧ w'.cell? ⟨p, 0, none⟩ = some (.int .u64 (N a.t.v)) ∧ w'.cell? ⟨p, 1, none⟩ = some (.int .u64 (N a.t.m)) ∧ w'.cell? ⟨p, 2, none⟩ = some (.int .u64 (N a.s.lo)) ∧ w'.cell? ⟨p, 3, none⟩ = some (.int .u64 (N a.s.hi)) ∧ w'.cell? ⟨q, 0, none⟩ = some (.int .u64 (N b.t.v)) ∧ w'.cell? ⟨q, 1, none⟩ = some (.int .u64 (N b.t.m)) ∧ w'.cell? ⟨q, 2, none⟩ = some (.int .u64 (N b.s.lo)) ∧ w'.cell? ⟨q, 3, none⟩ = some (.int .u64 (N b.s.hi)) ∧ w'.cell? ⟨wF.heap.size, 0, none⟩ = some (.int .u64 (N f.t.v)) ∧ w'.cell? ⟨wF.heap.size, 1, none⟩ = some (.int .u64 (N f.t.m)) ∧ w'.cell? ⟨wF.heap.size, 2, none⟩ = some (.int .u64 (N f.s.lo)) ∧ w'.cell? ⟨wF.heap.size, 3, none⟩ = some (.int .u64 (N f.s.hi)) ∧ Below w.heap.size w w') (((refine FNarrowC_keep  _ _ HC ?_); (repeat' (first | (with_reducible exact Below.refl _ _) | (with_reducible assumption) | (with_reducible refine Below.alloc ?_ ?_ _) | (with_reducible refine Below.setCell ?_ ?_ _) | (with_reducible refine Below.drew ?_) | (with_reducible refine below_dn ?_ _) | (with_reducible refine Below.trans ?_ (Below.mono (by assumption) ?_)) | go_size)))) ((first | (go_at_call 17; (with_reducible refine (fof_c' _ _).mono ?_); rintro e w1 ⟨rfl, hb1⟩; obtain ⟨hc1, hf1, hz1⟩ := bcell hb1; (try simp only [World.size_alloc, World.size_setCell, World.size_drew] at hc1 hf1 hz1)) | (go_at_call 14; (with_reducible refine (fdo_c' _ _ _ _ _ _ _ _ _ _ _ _).mono ?_); rintro e w1 ⟨rfl, hb1⟩; obtain ⟨hc1, hf1, hz1⟩ := bcell hb1; (try simp only [World.size_alloc, World.size_setCell, World.size_drew] at hc1 hf1 hz1); (try simp only [Tn.eta, Sp.eta, Fa.eta, d2, d1e, d2e, if_true, Bool.false_eq_true, if_false]))))
      all_goals (go_wp2_with fail; go_meet; refine ⟨_, rfl, rfl, FNarrowC_keep _ _ HC (by repeat' (first | (with_reducible exact Below.refl _ _) | (with_reducible assumption) | (with_reducible refine Below.alloc ?_ ?_ _) | (with_reducible refine Below.setCell ?_ ?_ _) | (with_reducible refine Below.drew ?_) | (with_reducible refine below_dn ?_ _) | (with_reducible refine Below.trans ?_ (Below.mono (by assumption) ?_)) | go_size)), ?_, ?_, ?_, ?_⟩ <;> (simp [*, go_sem, ↓IntWalk.iteOmega]; done))
    case rest =>
      obtain ⟨r, rfl, rfl, hC, g0, g1, g2, g3⟩ := hcut
      obtain ⟨m0, m1, m2, m3, m4, m5, m6, m7, m8, m9, m10, m11, m12, m13, m14, m15, m16, m17, m18, m19, m20⟩ := hC
      have zg := cell_lt g0
      have zf := cell_lt m16
      go_wp2_with fail
      refine (rdo_c _ _ _ _ _ _).mono ?_
      rintro e wR ⟨rfl, hbwR⟩
      obtain ⟨hcwR, hfwR, hzwR⟩ := bcell hbwR
      (try simp only [World.size_alloc, World.size_setCell, World.size_drew] at hcwR hfwR hzwR)
      simp only [hz, Alu.val_some, Alu.err_some, Alu.val_none, Alu.err_none]
      go_wp2_with fail
      refine wp_region_class (FNarrowD f (Fa.of z) wF.heap.size r w) (by kernel_rfl) (by kernel_rfl) ?_ ?_
      · refine ⟨?_, ?_, ?_, ?_, ?_, ?_, ?_, ?_, (by repeat' (first | (with_reducible exact Below.refl _ _) | (with_reducible assumption) | (with_reducible refine Below.alloc ?_ ?_ _) | (with_reducible refine Below.setCell ?_ ?_ _) | (with_reducible refine Below.drew ?_) | (with_reducible refine below_dn ?_ _) | (with_reducible refine Below.trans ?_ (Below.mono (by assumption) ?_)) | go_size))⟩
        all_goals first | (intro i; simp [*, go_sem, ↓IntWalk.iteOmega]; done) | (simp [*, go_sem, ↓IntWalk.iteOmega]; done)
      clear hbwR hcwR hfwR hzwR
      intro hN
      (try simp only [List.append])
      repeat (first
        | go_big_quiet_skip
        | (go_big_quiet_want
           first
             | (refine quiet_load_Fa rfl rfl (fun w' hC => by obtain ⟨k0, k1, k2, k3, k4, k5, k6, k7, k8⟩ := hC; first | exact ⟨k0, k1, k2, k3⟩ | exact ⟨k1, k2, k3, k4⟩ | exact ⟨k2, k3, k4, k5⟩ | exact ⟨k3, k4, k5, k6⟩ | exact ⟨k4, k5, k6, k7⟩) ?_
                simp only [Act.put, List.setIfInBounds_toArray, List.set_cons_succ, List.set_cons_zero]
                go_big_quiet_on)
             | (refine quiet_load_W rfl rfl (fun w' hC => by obtain ⟨k0, k1, k2, k3, k4, k5, k6, k7, k8⟩ := hC; first | exact k0 | exact k1 | exact k2 | exact k3 | exact k4 | exact k5 | exact k6 | exact k7) ?_
                simp only [Act.put, List.setIfInBounds_toArray, List.set_cons_succ, List.set_cons_zero]
                go_big_quiet_on)
             | (go_big_quiet_op
                first
                  | go_big_quiet_on
                  | (apply Exists.intro
                     refine ⟨fun w' hC => ?_, ?_⟩
                     · (first | (go_at_call 17; (with_reducible refine (fof_c' _ _).mono ?_); rintro e w1 ⟨rfl, hb1⟩))
                       (try simp only [Tn.eta, Sp.eta, Fa.eta])
                       exact ⟨rfl, by first | exact hC | exact FNarrowD_keep _ _ hC hb1⟩
                     go_big_quiet_on))))
      refine wpQuiet_nil ?_
      intro w9 hC
      obtain ⟨k0, k1, k2, k3, k4, k5, k6, k7, k8⟩ := hC
      have z0 := cell_lt k0
      have z4 := cell_lt k4
      go_wp2
      go_ret
      exact ⟨rfl, k8⟩

end Hk
