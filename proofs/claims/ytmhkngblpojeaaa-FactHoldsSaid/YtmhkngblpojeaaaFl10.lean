/- The statement FactHolds of the Go text: it returns true, and old memory is as it was. No condition but a byte's bounds. -/
import Derived.Test.YtmhkngblpojeaaaProg
import Derived.Test.YtmhkngblpojeaaaGp
import Derived.Test.YtmhkngblpojeaaaGf
import Derived.Test.YtmhkngblpojeaaaFl1
import Derived.Test.YtmhkngblpojeaaaFa14
import Derived.Test.YtmhkngblpojeaaaGe
import Derived.Test.YtmhkngblpojeaaaGl
import Derived.Deep.RegionHeld3
import Derived.Deep.DeepCutAuto
namespace Hk
open Go Go.RowKit Go.Proofs
set_option linter.unusedSimpArgs false
set_option linter.unusedVariables false
set_option maxRecDepth 100000
attribute [go_sem] Tn.eta
attribute [go_sem] Cond.val_some Cond.err_some Cond.val_none Cond.err_none
def FEightC (n0 n1 n2 n3 n4 n5 n6 n7 : BitVec 64) (w : World) (w' : World) : Prop := w'.cell? ⟨w.heap.size, 0, none⟩ = some (.int .u64 (N n0)) ∧ w'.cell? ⟨w.heap.size, 1, none⟩ = some (.int .u64 (N n1)) ∧ w'.cell? ⟨w.heap.size, 2, none⟩ = some (.int .u64 (N n2)) ∧ w'.cell? ⟨w.heap.size, 3, none⟩ = some (.int .u64 (N n3)) ∧ w'.cell? ⟨w.heap.size, 4, none⟩ = some (.int .u64 (N n4)) ∧ w'.cell? ⟨w.heap.size, 5, none⟩ = some (.int .u64 (N n5)) ∧ w'.cell? ⟨w.heap.size, 6, none⟩ = some (.int .u64 (N n6)) ∧ w'.cell? ⟨w.heap.size, 7, none⟩ = some (.int .u64 (N n7)) ∧ Below w.heap.size w w'
theorem FEightC_keep {n0 n1 n2 n3 n4 n5 n6 n7 : BitVec 64} {w : World} (w' w1 : World) (h : FEightC n0 n1 n2 n3 n4 n5 n6 n7 w w') (hb : Below w'.heap.size w' w1) : FEightC n0 n1 n2 n3 n4 n5 n6 n7 w w1 := by
  obtain ⟨k0, k1, k2, k3, k4, k5, k6, k7, k8⟩ := h
  exact ⟨cell_keep hb k0, cell_keep hb k1, cell_keep hb k2, cell_keep hb k3, cell_keep hb k4, cell_keep hb k5, cell_keep hb k6, cell_keep hb k7, below_next k8 hb⟩

set_option maxHeartbeats 4000000 in
theorem factHolds_y0 (op : Int) (wd : Bool) (n0 n1 n2 n3 n4 n5 n6 n7 : BitVec 64) (a b : Fa) (hma : Fa.made n0 n1 n2 n3 = a) (hmb : Fa.made n4 n5 n6 n7 = b) (x y : Fa) (hd : Fa.if_ op wd a b = some (x, y)) (hw1 : Fa.within x a = true) (hw2 : Fa.within y b = true) (hz : Cond.is op wd n0 n4 = none) (w : World) : Calls Try.prog 11 #[.int .u8 op, .bool wd, .agg #[.int .u64 (N n0), .int .u64 (N n1), .int .u64 (N n2), .int .u64 (N n3), .int .u64 (N n4), .int .u64 (N n5), .int .u64 (N n6), .int .u64 (N n7)]] w fun e w' => e = .returned (.bool true) ∧ Below w.heap.size w w' := by
  have hma' := Lib.hid hma
  have hmb' := Lib.hid hmb
  clear hma hmb
  go_enter Try.func11, Try.ntmps11
  go_wp2_with fail
  refine (fshown_c _).mono ?_
  rintro e wS ⟨rfl, hbwS⟩
  obtain ⟨hcwS, hfwS, hzwS⟩ := bcell hbwS
  (try simp only [World.size_alloc, World.size_setCell, World.size_drew] at hcwS hfwS hzwS)
  go_upto_region 2 with fail
  go_cut [8, 9] (fun sa sb wx => ∃ p q : Nat, sa = .pointer (some ⟨p, 0, none⟩) ∧ sb = .pointer (some ⟨q, 0, none⟩) ∧ FEightC n0 n1 n2 n3 n4 n5 n6 n7 w wx ∧ wx.cell? ⟨p, 0, none⟩ = some (.int .u64 (N (Fa.made n0 n1 n2 n3).t.v)) ∧ wx.cell? ⟨p, 1, none⟩ = some (.int .u64 (N (Fa.made n0 n1 n2 n3).t.m)) ∧ wx.cell? ⟨p, 2, none⟩ = some (.int .u64 (N (Fa.made n0 n1 n2 n3).s.lo)) ∧ wx.cell? ⟨p, 3, none⟩ = some (.int .u64 (N (Fa.made n0 n1 n2 n3).s.hi)) ∧ wx.cell? ⟨q, 0, none⟩ = some (.int .u64 (N (Fa.made n4 n5 n6 n7).t.v)) ∧ wx.cell? ⟨q, 1, none⟩ = some (.int .u64 (N (Fa.made n4 n5 n6 n7).t.m)) ∧ wx.cell? ⟨q, 2, none⟩ = some (.int .u64 (N (Fa.made n4 n5 n6 n7).s.lo)) ∧ wx.cell? ⟨q, 3, none⟩ = some (.int .u64 (N (Fa.made n4 n5 n6 n7).s.hi)))
  case first =>
    have HC : FEightC n0 n1 n2 n3 n4 n5 n6 n7 w wS := by
      refine ⟨?_, ?_, ?_, ?_, ?_, ?_, ?_, ?_, (by repeat' (first | (with_reducible exact Below.refl _ _) | (with_reducible assumption) | (with_reducible refine Below.alloc ?_ ?_ _) | (with_reducible refine Below.setCell ?_ ?_ _) | (with_reducible refine Below.drew ?_) | (with_reducible refine below_dn ?_ _) | (with_reducible refine Below.trans ?_ (Below.mono (by assumption) ?_)) | go_size))⟩
      all_goals first | (intro i; simp [*, go_sem, ↓IntWalk.iteOmega]; done) | (simp [*, go_sem, ↓IntWalk.iteOmega]; done)
    go_region_held3 (fun w' => w'.cell? ⟨w.heap.size, 0, none⟩ = some (.int .u64 (N n0)) ∧ w'.cell? ⟨w.heap.size, 1, none⟩ = some (.int .u64 (N n1)) ∧ w'.cell? ⟨w.heap.size, 2, none⟩ = some (.int .u64 (N n2)) ∧ w'.cell? ⟨w.heap.size, 3, none⟩ = some (.int .u64 (N n3)) ∧ w'.cell? ⟨w.heap.size, 4, none⟩ = some (.int .u64 (N n4)) ∧ w'.cell? ⟨w.heap.size, 5, none⟩ = some (.int .u64 (N n5)) ∧ w'.cell? ⟨w.heap.size, 6, none⟩ = some (.int .u64 (N n6)) ∧ w'.cell? ⟨w.heap.size, 7, none⟩ = some (.int .u64 (N n7)) ∧ Below w.heap.size w w') (((refine FEightC_keep  _ _ HC ?_); (repeat' (first | (with_reducible exact Below.refl _ _) | (with_reducible assumption) | (with_reducible refine Below.alloc ?_ ?_ _) | (with_reducible refine Below.setCell ?_ ?_ _) | (with_reducible refine Below.drew ?_) | (with_reducible refine below_dn ?_ _) | (with_reducible refine Below.trans ?_ (Below.mono (by assumption) ?_)) | go_size)))) ((first | (go_at_call 16; (with_reducible refine (fmade_c _ _ _ _ _).mono ?_); rintro e w1 ⟨rfl, hb1⟩; obtain ⟨hc1, hf1, hz1⟩ := bcell hb1; (try simp only [World.size_alloc, World.size_setCell, World.size_drew] at hc1 hf1 hz1))))
    all_goals (go_wp2_with fail; go_meet; refine ⟨_, _, rfl, rfl, FEightC_keep _ _ HC (by repeat' (first | (with_reducible exact Below.refl _ _) | (with_reducible assumption) | (with_reducible refine Below.alloc ?_ ?_ _) | (with_reducible refine Below.setCell ?_ ?_ _) | (with_reducible refine Below.drew ?_) | (with_reducible refine below_dn ?_ _) | (with_reducible refine Below.trans ?_ (Below.mono (by assumption) ?_)) | go_size)), ?_, ?_, ?_, ?_, ?_, ?_, ?_, ?_⟩ <;> (simp [*, go_sem, ↓IntWalk.iteOmega]; done))
  case rest =>
    obtain ⟨p, q, rfl, rfl, hC, a0, a1, a2, a3, b0, b1, b2, b3⟩ := hcut
    obtain ⟨n_0, n_1, n_2, n_3, n_4, n_5, n_6, n_7, hbC⟩ := hC
    have za := cell_lt a0
    have zb := cell_lt b0
    have zn := cell_lt n_0
    rw [hma'.out] at a0 a1 a2 a3
    rw [hmb'.out] at b0 b1 b2 b3
    go_wp2_with fail
    refine (fif_c' _ _ _ _ _ _ _ _ _ _ _).mono ?_
    rintro e wF ⟨rfl, hbwF⟩
    obtain ⟨hcwF, hfwF, hzwF⟩ := bcell hbwF
    (try simp only [World.size_alloc, World.size_setCell, World.size_drew] at hcwF hfwF hzwF)
    (try simp only [Tn.eta, Sp.eta, Fa.eta, hd, Option.isSome_some, Option.isSome_none, Option.getD_some, Option.getD_none, if_true, Bool.false_eq_true, if_false])
    go_wp2_with (first | (go_at_call 30; (with_reducible refine (fwithin_c' _ _ _ _ _ _ _ _ _).mono ?_); rintro e w1 ⟨rfl, hb1⟩; obtain ⟨hc1, hf1, hz1⟩ := bcell hb1; (try simp only [World.size_alloc, World.size_setCell, World.size_drew] at hc1 hf1 hz1)))
    refine (ris_c _ _ _ _ _).mono ?_
    rintro e wT ⟨rfl, rfl⟩
    (try simp only [Tn.eta, Sp.eta, Fa.eta, hz, Cond.val_some, Cond.err_some, Cond.val_none, Cond.err_none, Option.isSome_some, Option.isSome_none, Option.getD_some, Option.getD_none, if_true, Bool.false_eq_true, if_false])
    go_wp2
    go_ret
    exact ⟨rfl, (by repeat' (first | (with_reducible exact Below.refl _ _) | (with_reducible assumption) | (with_reducible refine Below.alloc ?_ ?_ _) | (with_reducible refine Below.setCell ?_ ?_ _) | (with_reducible refine Below.drew ?_) | (with_reducible refine below_dn ?_ _) | (with_reducible refine Below.trans ?_ (Below.mono (by assumption) ?_)) | go_size))⟩

set_option maxHeartbeats 4000000 in
theorem factHolds_y1 (op : Int) (wd : Bool) (n0 n1 n2 n3 n4 n5 n6 n7 : BitVec 64) (a b : Fa) (hma : Fa.made n0 n1 n2 n3 = a) (hmb : Fa.made n4 n5 n6 n7 = b) (x y : Fa) (hd : Fa.if_ op wd a b = some (x, y)) (hw1 : Fa.within x a = true) (hw2 : Fa.within y b = true) (hz : Cond.is op wd n0 n4 = some false) (w : World) : Calls Try.prog 11 #[.int .u8 op, .bool wd, .agg #[.int .u64 (N n0), .int .u64 (N n1), .int .u64 (N n2), .int .u64 (N n3), .int .u64 (N n4), .int .u64 (N n5), .int .u64 (N n6), .int .u64 (N n7)]] w fun e w' => e = .returned (.bool true) ∧ Below w.heap.size w w' := by
  have hma' := Lib.hid hma
  have hmb' := Lib.hid hmb
  clear hma hmb
  go_enter Try.func11, Try.ntmps11
  go_wp2_with fail
  refine (fshown_c _).mono ?_
  rintro e wS ⟨rfl, hbwS⟩
  obtain ⟨hcwS, hfwS, hzwS⟩ := bcell hbwS
  (try simp only [World.size_alloc, World.size_setCell, World.size_drew] at hcwS hfwS hzwS)
  go_upto_region 2 with fail
  go_cut [8, 9] (fun sa sb wx => ∃ p q : Nat, sa = .pointer (some ⟨p, 0, none⟩) ∧ sb = .pointer (some ⟨q, 0, none⟩) ∧ FEightC n0 n1 n2 n3 n4 n5 n6 n7 w wx ∧ wx.cell? ⟨p, 0, none⟩ = some (.int .u64 (N (Fa.made n0 n1 n2 n3).t.v)) ∧ wx.cell? ⟨p, 1, none⟩ = some (.int .u64 (N (Fa.made n0 n1 n2 n3).t.m)) ∧ wx.cell? ⟨p, 2, none⟩ = some (.int .u64 (N (Fa.made n0 n1 n2 n3).s.lo)) ∧ wx.cell? ⟨p, 3, none⟩ = some (.int .u64 (N (Fa.made n0 n1 n2 n3).s.hi)) ∧ wx.cell? ⟨q, 0, none⟩ = some (.int .u64 (N (Fa.made n4 n5 n6 n7).t.v)) ∧ wx.cell? ⟨q, 1, none⟩ = some (.int .u64 (N (Fa.made n4 n5 n6 n7).t.m)) ∧ wx.cell? ⟨q, 2, none⟩ = some (.int .u64 (N (Fa.made n4 n5 n6 n7).s.lo)) ∧ wx.cell? ⟨q, 3, none⟩ = some (.int .u64 (N (Fa.made n4 n5 n6 n7).s.hi)))
  case first =>
    have HC : FEightC n0 n1 n2 n3 n4 n5 n6 n7 w wS := by
      refine ⟨?_, ?_, ?_, ?_, ?_, ?_, ?_, ?_, (by repeat' (first | (with_reducible exact Below.refl _ _) | (with_reducible assumption) | (with_reducible refine Below.alloc ?_ ?_ _) | (with_reducible refine Below.setCell ?_ ?_ _) | (with_reducible refine Below.drew ?_) | (with_reducible refine below_dn ?_ _) | (with_reducible refine Below.trans ?_ (Below.mono (by assumption) ?_)) | go_size))⟩
      all_goals first | (intro i; simp [*, go_sem, ↓IntWalk.iteOmega]; done) | (simp [*, go_sem, ↓IntWalk.iteOmega]; done)
    go_region_held3 (fun w' => w'.cell? ⟨w.heap.size, 0, none⟩ = some (.int .u64 (N n0)) ∧ w'.cell? ⟨w.heap.size, 1, none⟩ = some (.int .u64 (N n1)) ∧ w'.cell? ⟨w.heap.size, 2, none⟩ = some (.int .u64 (N n2)) ∧ w'.cell? ⟨w.heap.size, 3, none⟩ = some (.int .u64 (N n3)) ∧ w'.cell? ⟨w.heap.size, 4, none⟩ = some (.int .u64 (N n4)) ∧ w'.cell? ⟨w.heap.size, 5, none⟩ = some (.int .u64 (N n5)) ∧ w'.cell? ⟨w.heap.size, 6, none⟩ = some (.int .u64 (N n6)) ∧ w'.cell? ⟨w.heap.size, 7, none⟩ = some (.int .u64 (N n7)) ∧ Below w.heap.size w w') (((refine FEightC_keep  _ _ HC ?_); (repeat' (first | (with_reducible exact Below.refl _ _) | (with_reducible assumption) | (with_reducible refine Below.alloc ?_ ?_ _) | (with_reducible refine Below.setCell ?_ ?_ _) | (with_reducible refine Below.drew ?_) | (with_reducible refine below_dn ?_ _) | (with_reducible refine Below.trans ?_ (Below.mono (by assumption) ?_)) | go_size)))) ((first | (go_at_call 16; (with_reducible refine (fmade_c _ _ _ _ _).mono ?_); rintro e w1 ⟨rfl, hb1⟩; obtain ⟨hc1, hf1, hz1⟩ := bcell hb1; (try simp only [World.size_alloc, World.size_setCell, World.size_drew] at hc1 hf1 hz1))))
    all_goals (go_wp2_with fail; go_meet; refine ⟨_, _, rfl, rfl, FEightC_keep _ _ HC (by repeat' (first | (with_reducible exact Below.refl _ _) | (with_reducible assumption) | (with_reducible refine Below.alloc ?_ ?_ _) | (with_reducible refine Below.setCell ?_ ?_ _) | (with_reducible refine Below.drew ?_) | (with_reducible refine below_dn ?_ _) | (with_reducible refine Below.trans ?_ (Below.mono (by assumption) ?_)) | go_size)), ?_, ?_, ?_, ?_, ?_, ?_, ?_, ?_⟩ <;> (simp [*, go_sem, ↓IntWalk.iteOmega]; done))
  case rest =>
    obtain ⟨p, q, rfl, rfl, hC, a0, a1, a2, a3, b0, b1, b2, b3⟩ := hcut
    obtain ⟨n_0, n_1, n_2, n_3, n_4, n_5, n_6, n_7, hbC⟩ := hC
    have za := cell_lt a0
    have zb := cell_lt b0
    have zn := cell_lt n_0
    rw [hma'.out] at a0 a1 a2 a3
    rw [hmb'.out] at b0 b1 b2 b3
    go_wp2_with fail
    refine (fif_c' _ _ _ _ _ _ _ _ _ _ _).mono ?_
    rintro e wF ⟨rfl, hbwF⟩
    obtain ⟨hcwF, hfwF, hzwF⟩ := bcell hbwF
    (try simp only [World.size_alloc, World.size_setCell, World.size_drew] at hcwF hfwF hzwF)
    (try simp only [Tn.eta, Sp.eta, Fa.eta, hd, Option.isSome_some, Option.isSome_none, Option.getD_some, Option.getD_none, if_true, Bool.false_eq_true, if_false])
    go_wp2_with (first | (go_at_call 30; (with_reducible refine (fwithin_c' _ _ _ _ _ _ _ _ _).mono ?_); rintro e w1 ⟨rfl, hb1⟩; obtain ⟨hc1, hf1, hz1⟩ := bcell hb1; (try simp only [World.size_alloc, World.size_setCell, World.size_drew] at hc1 hf1 hz1)))
    refine (ris_c _ _ _ _ _).mono ?_
    rintro e wT ⟨rfl, rfl⟩
    (try simp only [Tn.eta, Sp.eta, Fa.eta, hz, Cond.val_some, Cond.err_some, Cond.val_none, Cond.err_none, Option.isSome_some, Option.isSome_none, Option.getD_some, Option.getD_none, if_true, Bool.false_eq_true, if_false])
    go_wp2
    go_ret
    exact ⟨rfl, (by repeat' (first | (with_reducible exact Below.refl _ _) | (with_reducible assumption) | (with_reducible refine Below.alloc ?_ ?_ _) | (with_reducible refine Below.setCell ?_ ?_ _) | (with_reducible refine Below.drew ?_) | (with_reducible refine below_dn ?_ _) | (with_reducible refine Below.trans ?_ (Below.mono (by assumption) ?_)) | go_size))⟩

set_option maxHeartbeats 4000000 in
theorem factHolds_n0 (op : Int) (wd : Bool) (n0 n1 n2 n3 n4 n5 n6 n7 : BitVec 64) (a b : Fa) (hma : Fa.made n0 n1 n2 n3 = a) (hmb : Fa.made n4 n5 n6 n7 = b) (hd : Fa.if_ op wd a b = none) (hz : Cond.is op wd n0 n4 = none) (w : World) : Calls Try.prog 11 #[.int .u8 op, .bool wd, .agg #[.int .u64 (N n0), .int .u64 (N n1), .int .u64 (N n2), .int .u64 (N n3), .int .u64 (N n4), .int .u64 (N n5), .int .u64 (N n6), .int .u64 (N n7)]] w fun e w' => e = .returned (.bool true) ∧ Below w.heap.size w w' := by
  have hma' := Lib.hid hma
  have hmb' := Lib.hid hmb
  clear hma hmb
  go_enter Try.func11, Try.ntmps11
  go_wp2_with fail
  refine (fshown_c _).mono ?_
  rintro e wS ⟨rfl, hbwS⟩
  obtain ⟨hcwS, hfwS, hzwS⟩ := bcell hbwS
  (try simp only [World.size_alloc, World.size_setCell, World.size_drew] at hcwS hfwS hzwS)
  go_upto_region 2 with fail
  go_cut [8, 9] (fun sa sb wx => ∃ p q : Nat, sa = .pointer (some ⟨p, 0, none⟩) ∧ sb = .pointer (some ⟨q, 0, none⟩) ∧ FEightC n0 n1 n2 n3 n4 n5 n6 n7 w wx ∧ wx.cell? ⟨p, 0, none⟩ = some (.int .u64 (N (Fa.made n0 n1 n2 n3).t.v)) ∧ wx.cell? ⟨p, 1, none⟩ = some (.int .u64 (N (Fa.made n0 n1 n2 n3).t.m)) ∧ wx.cell? ⟨p, 2, none⟩ = some (.int .u64 (N (Fa.made n0 n1 n2 n3).s.lo)) ∧ wx.cell? ⟨p, 3, none⟩ = some (.int .u64 (N (Fa.made n0 n1 n2 n3).s.hi)) ∧ wx.cell? ⟨q, 0, none⟩ = some (.int .u64 (N (Fa.made n4 n5 n6 n7).t.v)) ∧ wx.cell? ⟨q, 1, none⟩ = some (.int .u64 (N (Fa.made n4 n5 n6 n7).t.m)) ∧ wx.cell? ⟨q, 2, none⟩ = some (.int .u64 (N (Fa.made n4 n5 n6 n7).s.lo)) ∧ wx.cell? ⟨q, 3, none⟩ = some (.int .u64 (N (Fa.made n4 n5 n6 n7).s.hi)))
  case first =>
    have HC : FEightC n0 n1 n2 n3 n4 n5 n6 n7 w wS := by
      refine ⟨?_, ?_, ?_, ?_, ?_, ?_, ?_, ?_, (by repeat' (first | (with_reducible exact Below.refl _ _) | (with_reducible assumption) | (with_reducible refine Below.alloc ?_ ?_ _) | (with_reducible refine Below.setCell ?_ ?_ _) | (with_reducible refine Below.drew ?_) | (with_reducible refine below_dn ?_ _) | (with_reducible refine Below.trans ?_ (Below.mono (by assumption) ?_)) | go_size))⟩
      all_goals first | (intro i; simp [*, go_sem, ↓IntWalk.iteOmega]; done) | (simp [*, go_sem, ↓IntWalk.iteOmega]; done)
    go_region_held3 (fun w' => w'.cell? ⟨w.heap.size, 0, none⟩ = some (.int .u64 (N n0)) ∧ w'.cell? ⟨w.heap.size, 1, none⟩ = some (.int .u64 (N n1)) ∧ w'.cell? ⟨w.heap.size, 2, none⟩ = some (.int .u64 (N n2)) ∧ w'.cell? ⟨w.heap.size, 3, none⟩ = some (.int .u64 (N n3)) ∧ w'.cell? ⟨w.heap.size, 4, none⟩ = some (.int .u64 (N n4)) ∧ w'.cell? ⟨w.heap.size, 5, none⟩ = some (.int .u64 (N n5)) ∧ w'.cell? ⟨w.heap.size, 6, none⟩ = some (.int .u64 (N n6)) ∧ w'.cell? ⟨w.heap.size, 7, none⟩ = some (.int .u64 (N n7)) ∧ Below w.heap.size w w') (((refine FEightC_keep  _ _ HC ?_); (repeat' (first | (with_reducible exact Below.refl _ _) | (with_reducible assumption) | (with_reducible refine Below.alloc ?_ ?_ _) | (with_reducible refine Below.setCell ?_ ?_ _) | (with_reducible refine Below.drew ?_) | (with_reducible refine below_dn ?_ _) | (with_reducible refine Below.trans ?_ (Below.mono (by assumption) ?_)) | go_size)))) ((first | (go_at_call 16; (with_reducible refine (fmade_c _ _ _ _ _).mono ?_); rintro e w1 ⟨rfl, hb1⟩; obtain ⟨hc1, hf1, hz1⟩ := bcell hb1; (try simp only [World.size_alloc, World.size_setCell, World.size_drew] at hc1 hf1 hz1))))
    all_goals (go_wp2_with fail; go_meet; refine ⟨_, _, rfl, rfl, FEightC_keep _ _ HC (by repeat' (first | (with_reducible exact Below.refl _ _) | (with_reducible assumption) | (with_reducible refine Below.alloc ?_ ?_ _) | (with_reducible refine Below.setCell ?_ ?_ _) | (with_reducible refine Below.drew ?_) | (with_reducible refine below_dn ?_ _) | (with_reducible refine Below.trans ?_ (Below.mono (by assumption) ?_)) | go_size)), ?_, ?_, ?_, ?_, ?_, ?_, ?_, ?_⟩ <;> (simp [*, go_sem, ↓IntWalk.iteOmega]; done))
  case rest =>
    obtain ⟨p, q, rfl, rfl, hC, a0, a1, a2, a3, b0, b1, b2, b3⟩ := hcut
    obtain ⟨n_0, n_1, n_2, n_3, n_4, n_5, n_6, n_7, hbC⟩ := hC
    have za := cell_lt a0
    have zb := cell_lt b0
    have zn := cell_lt n_0
    rw [hma'.out] at a0 a1 a2 a3
    rw [hmb'.out] at b0 b1 b2 b3
    go_wp2_with fail
    refine (fif_c' _ _ _ _ _ _ _ _ _ _ _).mono ?_
    rintro e wF ⟨rfl, hbwF⟩
    obtain ⟨hcwF, hfwF, hzwF⟩ := bcell hbwF
    (try simp only [World.size_alloc, World.size_setCell, World.size_drew] at hcwF hfwF hzwF)
    (try simp only [Tn.eta, Sp.eta, Fa.eta, hd, Option.isSome_some, Option.isSome_none, Option.getD_some, Option.getD_none, if_true, Bool.false_eq_true, if_false])
    go_wp2_with (first | (go_at_call 30; (with_reducible refine (fwithin_c' _ _ _ _ _ _ _ _ _).mono ?_); rintro e w1 ⟨rfl, hb1⟩; obtain ⟨hc1, hf1, hz1⟩ := bcell hb1; (try simp only [World.size_alloc, World.size_setCell, World.size_drew] at hc1 hf1 hz1)))
    refine (ris_c _ _ _ _ _).mono ?_
    rintro e wT ⟨rfl, rfl⟩
    (try simp only [Tn.eta, Sp.eta, Fa.eta, hz, Cond.val_some, Cond.err_some, Cond.val_none, Cond.err_none, Option.isSome_some, Option.isSome_none, Option.getD_some, Option.getD_none, if_true, Bool.false_eq_true, if_false])
    go_wp2
    go_ret
    exact ⟨rfl, (by repeat' (first | (with_reducible exact Below.refl _ _) | (with_reducible assumption) | (with_reducible refine Below.alloc ?_ ?_ _) | (with_reducible refine Below.setCell ?_ ?_ _) | (with_reducible refine Below.drew ?_) | (with_reducible refine below_dn ?_ _) | (with_reducible refine Below.trans ?_ (Below.mono (by assumption) ?_)) | go_size))⟩

set_option maxHeartbeats 4000000 in
theorem factHolds_n1 (op : Int) (wd : Bool) (n0 n1 n2 n3 n4 n5 n6 n7 : BitVec 64) (a b : Fa) (hma : Fa.made n0 n1 n2 n3 = a) (hmb : Fa.made n4 n5 n6 n7 = b) (hd : Fa.if_ op wd a b = none) (hz : Cond.is op wd n0 n4 = some false) (w : World) : Calls Try.prog 11 #[.int .u8 op, .bool wd, .agg #[.int .u64 (N n0), .int .u64 (N n1), .int .u64 (N n2), .int .u64 (N n3), .int .u64 (N n4), .int .u64 (N n5), .int .u64 (N n6), .int .u64 (N n7)]] w fun e w' => e = .returned (.bool true) ∧ Below w.heap.size w w' := by
  have hma' := Lib.hid hma
  have hmb' := Lib.hid hmb
  clear hma hmb
  go_enter Try.func11, Try.ntmps11
  go_wp2_with fail
  refine (fshown_c _).mono ?_
  rintro e wS ⟨rfl, hbwS⟩
  obtain ⟨hcwS, hfwS, hzwS⟩ := bcell hbwS
  (try simp only [World.size_alloc, World.size_setCell, World.size_drew] at hcwS hfwS hzwS)
  go_upto_region 2 with fail
  go_cut [8, 9] (fun sa sb wx => ∃ p q : Nat, sa = .pointer (some ⟨p, 0, none⟩) ∧ sb = .pointer (some ⟨q, 0, none⟩) ∧ FEightC n0 n1 n2 n3 n4 n5 n6 n7 w wx ∧ wx.cell? ⟨p, 0, none⟩ = some (.int .u64 (N (Fa.made n0 n1 n2 n3).t.v)) ∧ wx.cell? ⟨p, 1, none⟩ = some (.int .u64 (N (Fa.made n0 n1 n2 n3).t.m)) ∧ wx.cell? ⟨p, 2, none⟩ = some (.int .u64 (N (Fa.made n0 n1 n2 n3).s.lo)) ∧ wx.cell? ⟨p, 3, none⟩ = some (.int .u64 (N (Fa.made n0 n1 n2 n3).s.hi)) ∧ wx.cell? ⟨q, 0, none⟩ = some (.int .u64 (N (Fa.made n4 n5 n6 n7).t.v)) ∧ wx.cell? ⟨q, 1, none⟩ = some (.int .u64 (N (Fa.made n4 n5 n6 n7).t.m)) ∧ wx.cell? ⟨q, 2, none⟩ = some (.int .u64 (N (Fa.made n4 n5 n6 n7).s.lo)) ∧ wx.cell? ⟨q, 3, none⟩ = some (.int .u64 (N (Fa.made n4 n5 n6 n7).s.hi)))
  case first =>
    have HC : FEightC n0 n1 n2 n3 n4 n5 n6 n7 w wS := by
      refine ⟨?_, ?_, ?_, ?_, ?_, ?_, ?_, ?_, (by repeat' (first | (with_reducible exact Below.refl _ _) | (with_reducible assumption) | (with_reducible refine Below.alloc ?_ ?_ _) | (with_reducible refine Below.setCell ?_ ?_ _) | (with_reducible refine Below.drew ?_) | (with_reducible refine below_dn ?_ _) | (with_reducible refine Below.trans ?_ (Below.mono (by assumption) ?_)) | go_size))⟩
      all_goals first | (intro i; simp [*, go_sem, ↓IntWalk.iteOmega]; done) | (simp [*, go_sem, ↓IntWalk.iteOmega]; done)
    go_region_held3 (fun w' => w'.cell? ⟨w.heap.size, 0, none⟩ = some (.int .u64 (N n0)) ∧ w'.cell? ⟨w.heap.size, 1, none⟩ = some (.int .u64 (N n1)) ∧ w'.cell? ⟨w.heap.size, 2, none⟩ = some (.int .u64 (N n2)) ∧ w'.cell? ⟨w.heap.size, 3, none⟩ = some (.int .u64 (N n3)) ∧ w'.cell? ⟨w.heap.size, 4, none⟩ = some (.int .u64 (N n4)) ∧ w'.cell? ⟨w.heap.size, 5, none⟩ = some (.int .u64 (N n5)) ∧ w'.cell? ⟨w.heap.size, 6, none⟩ = some (.int .u64 (N n6)) ∧ w'.cell? ⟨w.heap.size, 7, none⟩ = some (.int .u64 (N n7)) ∧ Below w.heap.size w w') (((refine FEightC_keep  _ _ HC ?_); (repeat' (first | (with_reducible exact Below.refl _ _) | (with_reducible assumption) | (with_reducible refine Below.alloc ?_ ?_ _) | (with_reducible refine Below.setCell ?_ ?_ _) | (with_reducible refine Below.drew ?_) | (with_reducible refine below_dn ?_ _) | (with_reducible refine Below.trans ?_ (Below.mono (by assumption) ?_)) | go_size)))) ((first | (go_at_call 16; (with_reducible refine (fmade_c _ _ _ _ _).mono ?_); rintro e w1 ⟨rfl, hb1⟩; obtain ⟨hc1, hf1, hz1⟩ := bcell hb1; (try simp only [World.size_alloc, World.size_setCell, World.size_drew] at hc1 hf1 hz1))))
    all_goals (go_wp2_with fail; go_meet; refine ⟨_, _, rfl, rfl, FEightC_keep _ _ HC (by repeat' (first | (with_reducible exact Below.refl _ _) | (with_reducible assumption) | (with_reducible refine Below.alloc ?_ ?_ _) | (with_reducible refine Below.setCell ?_ ?_ _) | (with_reducible refine Below.drew ?_) | (with_reducible refine below_dn ?_ _) | (with_reducible refine Below.trans ?_ (Below.mono (by assumption) ?_)) | go_size)), ?_, ?_, ?_, ?_, ?_, ?_, ?_, ?_⟩ <;> (simp [*, go_sem, ↓IntWalk.iteOmega]; done))
  case rest =>
    obtain ⟨p, q, rfl, rfl, hC, a0, a1, a2, a3, b0, b1, b2, b3⟩ := hcut
    obtain ⟨n_0, n_1, n_2, n_3, n_4, n_5, n_6, n_7, hbC⟩ := hC
    have za := cell_lt a0
    have zb := cell_lt b0
    have zn := cell_lt n_0
    rw [hma'.out] at a0 a1 a2 a3
    rw [hmb'.out] at b0 b1 b2 b3
    go_wp2_with fail
    refine (fif_c' _ _ _ _ _ _ _ _ _ _ _).mono ?_
    rintro e wF ⟨rfl, hbwF⟩
    obtain ⟨hcwF, hfwF, hzwF⟩ := bcell hbwF
    (try simp only [World.size_alloc, World.size_setCell, World.size_drew] at hcwF hfwF hzwF)
    (try simp only [Tn.eta, Sp.eta, Fa.eta, hd, Option.isSome_some, Option.isSome_none, Option.getD_some, Option.getD_none, if_true, Bool.false_eq_true, if_false])
    go_wp2_with (first | (go_at_call 30; (with_reducible refine (fwithin_c' _ _ _ _ _ _ _ _ _).mono ?_); rintro e w1 ⟨rfl, hb1⟩; obtain ⟨hc1, hf1, hz1⟩ := bcell hb1; (try simp only [World.size_alloc, World.size_setCell, World.size_drew] at hc1 hf1 hz1)))
    refine (ris_c _ _ _ _ _).mono ?_
    rintro e wT ⟨rfl, rfl⟩
    (try simp only [Tn.eta, Sp.eta, Fa.eta, hz, Cond.val_some, Cond.err_some, Cond.val_none, Cond.err_none, Option.isSome_some, Option.isSome_none, Option.getD_some, Option.getD_none, if_true, Bool.false_eq_true, if_false])
    go_wp2
    go_ret
    exact ⟨rfl, (by repeat' (first | (with_reducible exact Below.refl _ _) | (with_reducible assumption) | (with_reducible refine Below.alloc ?_ ?_ _) | (with_reducible refine Below.setCell ?_ ?_ _) | (with_reducible refine Below.drew ?_) | (with_reducible refine below_dn ?_ _) | (with_reducible refine Below.trans ?_ (Below.mono (by assumption) ?_)) | go_size))⟩

set_option maxHeartbeats 4000000 in
theorem factHolds_y2 (op : Int) (wd : Bool) (n0 n1 n2 n3 n4 n5 n6 n7 : BitVec 64) (a b : Fa) (hma : Fa.made n0 n1 n2 n3 = a) (hmb : Fa.made n4 n5 n6 n7 = b) (x y : Fa) (hd : Fa.if_ op wd a b = some (x, y)) (hw1 : Fa.within x a = true) (hw2 : Fa.within y b = true) (hz : Cond.is op wd n0 n4 = some true) (hh1 : Fa.has x n0 = true) (hh2 : Fa.has y n4 = true) (w : World) : Calls Try.prog 11 #[.int .u8 op, .bool wd, .agg #[.int .u64 (N n0), .int .u64 (N n1), .int .u64 (N n2), .int .u64 (N n3), .int .u64 (N n4), .int .u64 (N n5), .int .u64 (N n6), .int .u64 (N n7)]] w fun e w' => e = .returned (.bool true) ∧ Below w.heap.size w w' := by
  have hma' := Lib.hid hma
  have hmb' := Lib.hid hmb
  clear hma hmb
  go_enter Try.func11, Try.ntmps11
  go_wp2_with fail
  refine (fshown_c _).mono ?_
  rintro e wS ⟨rfl, hbwS⟩
  obtain ⟨hcwS, hfwS, hzwS⟩ := bcell hbwS
  (try simp only [World.size_alloc, World.size_setCell, World.size_drew] at hcwS hfwS hzwS)
  go_upto_region 2 with fail
  go_cut [8, 9] (fun sa sb wx => ∃ p q : Nat, sa = .pointer (some ⟨p, 0, none⟩) ∧ sb = .pointer (some ⟨q, 0, none⟩) ∧ FEightC n0 n1 n2 n3 n4 n5 n6 n7 w wx ∧ wx.cell? ⟨p, 0, none⟩ = some (.int .u64 (N (Fa.made n0 n1 n2 n3).t.v)) ∧ wx.cell? ⟨p, 1, none⟩ = some (.int .u64 (N (Fa.made n0 n1 n2 n3).t.m)) ∧ wx.cell? ⟨p, 2, none⟩ = some (.int .u64 (N (Fa.made n0 n1 n2 n3).s.lo)) ∧ wx.cell? ⟨p, 3, none⟩ = some (.int .u64 (N (Fa.made n0 n1 n2 n3).s.hi)) ∧ wx.cell? ⟨q, 0, none⟩ = some (.int .u64 (N (Fa.made n4 n5 n6 n7).t.v)) ∧ wx.cell? ⟨q, 1, none⟩ = some (.int .u64 (N (Fa.made n4 n5 n6 n7).t.m)) ∧ wx.cell? ⟨q, 2, none⟩ = some (.int .u64 (N (Fa.made n4 n5 n6 n7).s.lo)) ∧ wx.cell? ⟨q, 3, none⟩ = some (.int .u64 (N (Fa.made n4 n5 n6 n7).s.hi)))
  case first =>
    have HC : FEightC n0 n1 n2 n3 n4 n5 n6 n7 w wS := by
      refine ⟨?_, ?_, ?_, ?_, ?_, ?_, ?_, ?_, (by repeat' (first | (with_reducible exact Below.refl _ _) | (with_reducible assumption) | (with_reducible refine Below.alloc ?_ ?_ _) | (with_reducible refine Below.setCell ?_ ?_ _) | (with_reducible refine Below.drew ?_) | (with_reducible refine below_dn ?_ _) | (with_reducible refine Below.trans ?_ (Below.mono (by assumption) ?_)) | go_size))⟩
      all_goals first | (intro i; simp [*, go_sem, ↓IntWalk.iteOmega]; done) | (simp [*, go_sem, ↓IntWalk.iteOmega]; done)
    go_region_held3 (fun w' => w'.cell? ⟨w.heap.size, 0, none⟩ = some (.int .u64 (N n0)) ∧ w'.cell? ⟨w.heap.size, 1, none⟩ = some (.int .u64 (N n1)) ∧ w'.cell? ⟨w.heap.size, 2, none⟩ = some (.int .u64 (N n2)) ∧ w'.cell? ⟨w.heap.size, 3, none⟩ = some (.int .u64 (N n3)) ∧ w'.cell? ⟨w.heap.size, 4, none⟩ = some (.int .u64 (N n4)) ∧ w'.cell? ⟨w.heap.size, 5, none⟩ = some (.int .u64 (N n5)) ∧ w'.cell? ⟨w.heap.size, 6, none⟩ = some (.int .u64 (N n6)) ∧ w'.cell? ⟨w.heap.size, 7, none⟩ = some (.int .u64 (N n7)) ∧ Below w.heap.size w w') (((refine FEightC_keep  _ _ HC ?_); (repeat' (first | (with_reducible exact Below.refl _ _) | (with_reducible assumption) | (with_reducible refine Below.alloc ?_ ?_ _) | (with_reducible refine Below.setCell ?_ ?_ _) | (with_reducible refine Below.drew ?_) | (with_reducible refine below_dn ?_ _) | (with_reducible refine Below.trans ?_ (Below.mono (by assumption) ?_)) | go_size)))) ((first | (go_at_call 16; (with_reducible refine (fmade_c _ _ _ _ _).mono ?_); rintro e w1 ⟨rfl, hb1⟩; obtain ⟨hc1, hf1, hz1⟩ := bcell hb1; (try simp only [World.size_alloc, World.size_setCell, World.size_drew] at hc1 hf1 hz1))))
    all_goals (go_wp2_with fail; go_meet; refine ⟨_, _, rfl, rfl, FEightC_keep _ _ HC (by repeat' (first | (with_reducible exact Below.refl _ _) | (with_reducible assumption) | (with_reducible refine Below.alloc ?_ ?_ _) | (with_reducible refine Below.setCell ?_ ?_ _) | (with_reducible refine Below.drew ?_) | (with_reducible refine below_dn ?_ _) | (with_reducible refine Below.trans ?_ (Below.mono (by assumption) ?_)) | go_size)), ?_, ?_, ?_, ?_, ?_, ?_, ?_, ?_⟩ <;> (simp [*, go_sem, ↓IntWalk.iteOmega]; done))
  case rest =>
    obtain ⟨p, q, rfl, rfl, hC, a0, a1, a2, a3, b0, b1, b2, b3⟩ := hcut
    obtain ⟨n_0, n_1, n_2, n_3, n_4, n_5, n_6, n_7, hbC⟩ := hC
    have za := cell_lt a0
    have zb := cell_lt b0
    have zn := cell_lt n_0
    rw [hma'.out] at a0 a1 a2 a3
    rw [hmb'.out] at b0 b1 b2 b3
    go_wp2_with fail
    refine (fif_c' _ _ _ _ _ _ _ _ _ _ _).mono ?_
    rintro e wF ⟨rfl, hbwF⟩
    obtain ⟨hcwF, hfwF, hzwF⟩ := bcell hbwF
    (try simp only [World.size_alloc, World.size_setCell, World.size_drew] at hcwF hfwF hzwF)
    (try simp only [Tn.eta, Sp.eta, Fa.eta, hd, Option.isSome_some, Option.isSome_none, Option.getD_some, Option.getD_none, if_true, Bool.false_eq_true, if_false])
    go_wp2_with (first | (go_at_call 30; (with_reducible refine (fwithin_c' _ _ _ _ _ _ _ _ _).mono ?_); rintro e w1 ⟨rfl, hb1⟩; obtain ⟨hc1, hf1, hz1⟩ := bcell hb1; (try simp only [World.size_alloc, World.size_setCell, World.size_drew] at hc1 hf1 hz1)))
    refine (ris_c _ _ _ _ _).mono ?_
    rintro e wT ⟨rfl, rfl⟩
    (try simp only [Tn.eta, Sp.eta, Fa.eta, hz, Cond.val_some, Cond.err_some, Cond.val_none, Cond.err_none, Option.isSome_some, Option.isSome_none, Option.getD_some, Option.getD_none, if_true, Bool.false_eq_true, if_false])
    go_wp2_with (first | (go_at_call 27; (with_reducible refine (fhas_c' _ _ _ _ _ _).mono ?_); rintro e w1 ⟨rfl, hb1⟩; obtain ⟨hc1, hf1, hz1⟩ := bcell hb1; (try simp only [World.size_alloc, World.size_setCell, World.size_drew] at hc1 hf1 hz1)))
    go_ret
    exact ⟨rfl, (by repeat' (first | (with_reducible exact Below.refl _ _) | (with_reducible assumption) | (with_reducible refine Below.alloc ?_ ?_ _) | (with_reducible refine Below.setCell ?_ ?_ _) | (with_reducible refine Below.drew ?_) | (with_reducible refine below_dn ?_ _) | (with_reducible refine Below.trans ?_ (Below.mono (by assumption) ?_)) | go_size))⟩

theorem factHolds_walk (op : Int) (_ : 0 ≤ op ∧ op ≤ 255) (wd : Bool) (n0 n1 n2 n3 n4 n5 n6 n7 : BitVec 64) (w : World) : Calls Try.prog 11 #[.int .u8 op, .bool wd, .agg #[.int .u64 (N n0), .int .u64 (N n1), .int .u64 (N n2), .int .u64 (N n3), .int .u64 (N n4), .int .u64 (N n5), .int .u64 (N n6), .int .u64 (N n7)]] w fun e w' => e = .returned (.bool true) ∧ Below w.heap.size w w' := by
  obtain ⟨_, oa, ma⟩ := Fa.made_spec n0 n1 n2 n3
  obtain ⟨_, ob, mb⟩ := Fa.made_spec n4 n5 n6 n7
  rcases hz : Cond.is op wd n0 n4 with _ | c
  · rcases hd : Fa.if_ op wd (Fa.made n0 n1 n2 n3) (Fa.made n4 n5 n6 n7) with _ | ⟨x, y⟩
    · exact factHolds_n0 op wd n0 n1 n2 n3 n4 n5 n6 n7 _ _ rfl rfl hd hz w
    · exact factHolds_y0 op wd n0 n1 n2 n3 n4 n5 n6 n7 _ _ rfl rfl x y hd (Fa.if_within hd).1 (Fa.if_within hd).2 hz w
  cases c
  · rcases hd : Fa.if_ op wd (Fa.made n0 n1 n2 n3) (Fa.made n4 n5 n6 n7) with _ | ⟨x, y⟩
    · exact factHolds_n1 op wd n0 n1 n2 n3 n4 n5 n6 n7 _ _ rfl rfl hd hz w
    · exact factHolds_y1 op wd n0 n1 n2 n3 n4 n5 n6 n7 _ _ rfl rfl x y hd (Fa.if_within hd).1 (Fa.if_within hd).2 hz w
  · obtain ⟨x, y, hd, h1, h2⟩ := Fa.if_sound oa ob ma mb hz
    exact factHolds_y2 op wd n0 n1 n2 n3 n4 n5 n6 n7 _ _ rfl rfl x y hd (Fa.if_within hd).1 (Fa.if_within hd).2 hz h1 h2 w

end Hk
