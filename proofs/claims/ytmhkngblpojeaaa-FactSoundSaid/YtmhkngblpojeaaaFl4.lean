/- The statement FactSound of the Go text: it returns true, and old memory is as it was. No condition but a byte's and a 16-bit number's bounds. -/
import Derived.Test.YtmhkngblpojeaaaProg
import Derived.Test.YtmhkngblpojeaaaGp
import Derived.Test.YtmhkngblpojeaaaGf
import Derived.Test.YtmhkngblpojeaaaFl1
import Derived.Test.YtmhkngblpojeaaaRc5
import Derived.Test.YtmhkngblpojeaaaGl
import Derived.Deep.RegionHeld3
import Derived.Deep.DeepCutAuto
namespace Hk
open Go Go.RowKit Go.Proofs
set_option linter.unusedSimpArgs false
set_option linter.unusedVariables false
set_option maxRecDepth 100000
attribute [go_sem] Tn.eta Alu.val_some Alu.err_some Alu.val_none Alu.err_none
def FEightC (n0 n1 n2 n3 n4 n5 n6 n7 : BitVec 64) (w : World) (w' : World) : Prop := w'.cell? ⟨w.heap.size, 0, none⟩ = some (.int .u64 (N n0)) ∧ w'.cell? ⟨w.heap.size, 1, none⟩ = some (.int .u64 (N n1)) ∧ w'.cell? ⟨w.heap.size, 2, none⟩ = some (.int .u64 (N n2)) ∧ w'.cell? ⟨w.heap.size, 3, none⟩ = some (.int .u64 (N n3)) ∧ w'.cell? ⟨w.heap.size, 4, none⟩ = some (.int .u64 (N n4)) ∧ w'.cell? ⟨w.heap.size, 5, none⟩ = some (.int .u64 (N n5)) ∧ w'.cell? ⟨w.heap.size, 6, none⟩ = some (.int .u64 (N n6)) ∧ w'.cell? ⟨w.heap.size, 7, none⟩ = some (.int .u64 (N n7)) ∧ Below w.heap.size w w'
theorem FEightC_keep {n0 n1 n2 n3 n4 n5 n6 n7 : BitVec 64} {w : World} (w' w1 : World) (h : FEightC n0 n1 n2 n3 n4 n5 n6 n7 w w') (hb : Below w'.heap.size w' w1) : FEightC n0 n1 n2 n3 n4 n5 n6 n7 w w1 := by
  obtain ⟨k0, k1, k2, k3, k4, k5, k6, k7, k8⟩ := h
  exact ⟨cell_keep hb k0, cell_keep hb k1, cell_keep hb k2, cell_keep hb k3, cell_keep hb k4, cell_keep hb k5, cell_keep hb k6, cell_keep hb k7, below_next k8 hb⟩

set_option maxHeartbeats 4000000 in
theorem factSound_n (op : Int) (wd : Bool) (off : Int) (n0 n1 n2 n3 n4 n5 n6 n7 : BitVec 64) (a b : Fa) (hma : Fa.made n0 n1 n2 n3 = a) (hmb : Fa.made n4 n5 n6 n7 = b) (hz : Alu.go op wd off n0 n4 = none) (hd : Fa.do_ op wd off a b = none) (w : World) : Calls Try.prog 6 #[.int .u8 op, .bool wd, .int .i16 off, .agg #[.int .u64 (N n0), .int .u64 (N n1), .int .u64 (N n2), .int .u64 (N n3), .int .u64 (N n4), .int .u64 (N n5), .int .u64 (N n6), .int .u64 (N n7)]] w fun e w' => e = .returned (.bool true) ∧ Below w.heap.size w w' := by
  have hma' := Lib.hid hma
  have hmb' := Lib.hid hmb
  clear hma hmb
  go_enter Try.func6, Try.ntmps6
  go_wp2_with fail
  refine (fshown_c _).mono ?_
  rintro e wS ⟨rfl, hbwS⟩
  obtain ⟨hcwS, hfwS, hzwS⟩ := bcell hbwS
  (try simp only [World.size_alloc, World.size_setCell, World.size_drew] at hcwS hfwS hzwS)
  go_upto_region 2 with fail
  go_cut [10, 11] (fun sa sb wx => ∃ p q : Nat, sa = .pointer (some ⟨p, 0, none⟩) ∧ sb = .pointer (some ⟨q, 0, none⟩) ∧ FEightC n0 n1 n2 n3 n4 n5 n6 n7 w wx ∧ wx.cell? ⟨p, 0, none⟩ = some (.int .u64 (N (Fa.made n0 n1 n2 n3).t.v)) ∧ wx.cell? ⟨p, 1, none⟩ = some (.int .u64 (N (Fa.made n0 n1 n2 n3).t.m)) ∧ wx.cell? ⟨p, 2, none⟩ = some (.int .u64 (N (Fa.made n0 n1 n2 n3).s.lo)) ∧ wx.cell? ⟨p, 3, none⟩ = some (.int .u64 (N (Fa.made n0 n1 n2 n3).s.hi)) ∧ wx.cell? ⟨q, 0, none⟩ = some (.int .u64 (N (Fa.made n4 n5 n6 n7).t.v)) ∧ wx.cell? ⟨q, 1, none⟩ = some (.int .u64 (N (Fa.made n4 n5 n6 n7).t.m)) ∧ wx.cell? ⟨q, 2, none⟩ = some (.int .u64 (N (Fa.made n4 n5 n6 n7).s.lo)) ∧ wx.cell? ⟨q, 3, none⟩ = some (.int .u64 (N (Fa.made n4 n5 n6 n7).s.hi)))
  case first =>
    have HC : FEightC n0 n1 n2 n3 n4 n5 n6 n7 w wS := by
      refine ⟨?_, ?_, ?_, ?_, ?_, ?_, ?_, ?_, (by repeat' (first | (with_reducible exact Below.refl _ _) | (with_reducible assumption) | (with_reducible refine Below.alloc ?_ ?_ _) | (with_reducible refine Below.setCell ?_ ?_ _) | (with_reducible refine Below.drew ?_) | (with_reducible refine below_dn ?_ _) | (with_reducible refine Below.trans ?_ (Below.mono (by assumption) ?_)) | go_size))⟩
      all_goals first | (intro i; simp [*, go_sem, ↓IntWalk.iteOmega]; done) | (simp [*, go_sem, ↓IntWalk.iteOmega]; done)
    go_region_held3 (fun w' => w'.cell? ⟨w.heap.size, 0, none⟩ = some (.int .u64 (N n0)) ∧ w'.cell? ⟨w.heap.size, 1, none⟩ = some (.int .u64 (N n1)) ∧ w'.cell? ⟨w.heap.size, 2, none⟩ = some (.int .u64 (N n2)) ∧ w'.cell? ⟨w.heap.size, 3, none⟩ = some (.int .u64 (N n3)) ∧ w'.cell? ⟨w.heap.size, 4, none⟩ = some (.int .u64 (N n4)) ∧ w'.cell? ⟨w.heap.size, 5, none⟩ = some (.int .u64 (N n5)) ∧ w'.cell? ⟨w.heap.size, 6, none⟩ = some (.int .u64 (N n6)) ∧ w'.cell? ⟨w.heap.size, 7, none⟩ = some (.int .u64 (N n7)) ∧ Below w.heap.size w w') (((refine FEightC_keep  _ _ HC ?_); (repeat' (first | (with_reducible exact Below.refl _ _) | (with_reducible assumption) | (with_reducible refine Below.alloc ?_ ?_ _) | (with_reducible refine Below.setCell ?_ ?_ _) | (with_reducible refine Below.drew ?_) | (with_reducible refine below_dn ?_ _) | (with_reducible refine Below.trans ?_ (Below.mono (by assumption) ?_)) | go_size)))) ((first | (go_at_call 16; (with_reducible refine (fmade_c _ _ _ _ _).mono ?_); rintro e w1 ⟨rfl, hb1⟩; obtain ⟨hc1, hf1, hz1⟩ := bcell hb1; (try simp only [World.size_alloc, World.size_setCell, World.size_drew] at hc1 hf1 hz1))))
    all_goals (go_wp2_with fail; go_meet; refine ⟨_, _, rfl, rfl, FEightC_keep _ _ HC (by repeat' (first | (with_reducible exact Below.refl _ _) | (with_reducible assumption) | (with_reducible refine Below.alloc ?_ ?_ _) | (with_reducible refine Below.setCell ?_ ?_ _) | (with_reducible refine Below.drew ?_) | (with_reducible refine below_dn ?_ _) | (with_reducible refine Below.trans ?_ (Below.mono (by assumption) ?_)) | go_size)), ?_, ?_, ?_, ?_, ?_, ?_, ?_, ?_⟩ <;> (simp [*, go_sem, ↓IntWalk.iteOmega]; done))
  case rest =>
    obtain ⟨p, q, rfl, rfl, hC, a0, a1, a2, a3, b0, b1, b2, b3⟩ := hcut
    obtain ⟨n_0, n_1, n_2, n_3, n_4, n_5, n_6, n_7, hbC⟩ := hC
    have za := cell_lt a0
    have zb := cell_lt b0
    have zn := cell_lt n_0
    rw [hma'.out] at a0 a1 a2 a3
    rw [hmb'.out] at b0 b1 b2 b3
    go_wp2_with fail
    refine (fdo_c' _ _ _ _ _ _ _ _ _ _ _ _).mono ?_
    rintro e wF ⟨rfl, hbwF⟩
    obtain ⟨hcwF, hfwF, hzwF⟩ := bcell hbwF
    (try simp only [World.size_alloc, World.size_setCell, World.size_drew] at hcwF hfwF hzwF)
    simp only [Tn.eta, Sp.eta, Fa.eta, hd, Option.isSome_some, Option.isSome_none, Option.getD_some, Option.getD_none, if_true, Bool.false_eq_true, if_false]
    go_wp2_with fail
    refine (rdo_c _ _ _ _ _ _).mono ?_
    rintro e wR ⟨rfl, hbwR⟩
    obtain ⟨hcwR, hfwR, hzwR⟩ := bcell hbwR
    (try simp only [World.size_alloc, World.size_setCell, World.size_drew] at hcwR hfwR hzwR)
    simp only [hz, Alu.val_some, Alu.err_some, Alu.val_none, Alu.err_none]
    go_wp2
    go_ret
    exact ⟨rfl, (by repeat' (first | (with_reducible exact Below.refl _ _) | (with_reducible assumption) | (with_reducible refine Below.alloc ?_ ?_ _) | (with_reducible refine Below.setCell ?_ ?_ _) | (with_reducible refine Below.drew ?_) | (with_reducible refine below_dn ?_ _) | (with_reducible refine Below.trans ?_ (Below.mono (by assumption) ?_)) | go_size))⟩

set_option maxHeartbeats 4000000 in
theorem factSound_y (op : Int) (wd : Bool) (off : Int) (n0 n1 n2 n3 n4 n5 n6 n7 : BitVec 64) (a b : Fa) (hma : Fa.made n0 n1 n2 n3 = a) (hmb : Fa.made n4 n5 n6 n7 = b) (z : BitVec 64) (f : Fa) (hz : Alu.go op wd off n0 n4 = some z) (hd : Fa.do_ op wd off a b = some f) (hr : Fa.ok f = true) (hh : Fa.has f z = true) (w : World) : Calls Try.prog 6 #[.int .u8 op, .bool wd, .int .i16 off, .agg #[.int .u64 (N n0), .int .u64 (N n1), .int .u64 (N n2), .int .u64 (N n3), .int .u64 (N n4), .int .u64 (N n5), .int .u64 (N n6), .int .u64 (N n7)]] w fun e w' => e = .returned (.bool true) ∧ Below w.heap.size w w' := by
  have hma' := Lib.hid hma
  have hmb' := Lib.hid hmb
  clear hma hmb
  go_enter Try.func6, Try.ntmps6
  go_wp2_with fail
  refine (fshown_c _).mono ?_
  rintro e wS ⟨rfl, hbwS⟩
  obtain ⟨hcwS, hfwS, hzwS⟩ := bcell hbwS
  (try simp only [World.size_alloc, World.size_setCell, World.size_drew] at hcwS hfwS hzwS)
  go_upto_region 2 with fail
  go_cut [10, 11] (fun sa sb wx => ∃ p q : Nat, sa = .pointer (some ⟨p, 0, none⟩) ∧ sb = .pointer (some ⟨q, 0, none⟩) ∧ FEightC n0 n1 n2 n3 n4 n5 n6 n7 w wx ∧ wx.cell? ⟨p, 0, none⟩ = some (.int .u64 (N (Fa.made n0 n1 n2 n3).t.v)) ∧ wx.cell? ⟨p, 1, none⟩ = some (.int .u64 (N (Fa.made n0 n1 n2 n3).t.m)) ∧ wx.cell? ⟨p, 2, none⟩ = some (.int .u64 (N (Fa.made n0 n1 n2 n3).s.lo)) ∧ wx.cell? ⟨p, 3, none⟩ = some (.int .u64 (N (Fa.made n0 n1 n2 n3).s.hi)) ∧ wx.cell? ⟨q, 0, none⟩ = some (.int .u64 (N (Fa.made n4 n5 n6 n7).t.v)) ∧ wx.cell? ⟨q, 1, none⟩ = some (.int .u64 (N (Fa.made n4 n5 n6 n7).t.m)) ∧ wx.cell? ⟨q, 2, none⟩ = some (.int .u64 (N (Fa.made n4 n5 n6 n7).s.lo)) ∧ wx.cell? ⟨q, 3, none⟩ = some (.int .u64 (N (Fa.made n4 n5 n6 n7).s.hi)))
  case first =>
    have HC : FEightC n0 n1 n2 n3 n4 n5 n6 n7 w wS := by
      refine ⟨?_, ?_, ?_, ?_, ?_, ?_, ?_, ?_, (by repeat' (first | (with_reducible exact Below.refl _ _) | (with_reducible assumption) | (with_reducible refine Below.alloc ?_ ?_ _) | (with_reducible refine Below.setCell ?_ ?_ _) | (with_reducible refine Below.drew ?_) | (with_reducible refine below_dn ?_ _) | (with_reducible refine Below.trans ?_ (Below.mono (by assumption) ?_)) | go_size))⟩
      all_goals first | (intro i; simp [*, go_sem, ↓IntWalk.iteOmega]; done) | (simp [*, go_sem, ↓IntWalk.iteOmega]; done)
    go_region_held3 (fun w' => w'.cell? ⟨w.heap.size, 0, none⟩ = some (.int .u64 (N n0)) ∧ w'.cell? ⟨w.heap.size, 1, none⟩ = some (.int .u64 (N n1)) ∧ w'.cell? ⟨w.heap.size, 2, none⟩ = some (.int .u64 (N n2)) ∧ w'.cell? ⟨w.heap.size, 3, none⟩ = some (.int .u64 (N n3)) ∧ w'.cell? ⟨w.heap.size, 4, none⟩ = some (.int .u64 (N n4)) ∧ w'.cell? ⟨w.heap.size, 5, none⟩ = some (.int .u64 (N n5)) ∧ w'.cell? ⟨w.heap.size, 6, none⟩ = some (.int .u64 (N n6)) ∧ w'.cell? ⟨w.heap.size, 7, none⟩ = some (.int .u64 (N n7)) ∧ Below w.heap.size w w') (((refine FEightC_keep  _ _ HC ?_); (repeat' (first | (with_reducible exact Below.refl _ _) | (with_reducible assumption) | (with_reducible refine Below.alloc ?_ ?_ _) | (with_reducible refine Below.setCell ?_ ?_ _) | (with_reducible refine Below.drew ?_) | (with_reducible refine below_dn ?_ _) | (with_reducible refine Below.trans ?_ (Below.mono (by assumption) ?_)) | go_size)))) ((first | (go_at_call 16; (with_reducible refine (fmade_c _ _ _ _ _).mono ?_); rintro e w1 ⟨rfl, hb1⟩; obtain ⟨hc1, hf1, hz1⟩ := bcell hb1; (try simp only [World.size_alloc, World.size_setCell, World.size_drew] at hc1 hf1 hz1))))
    all_goals (go_wp2_with fail; go_meet; refine ⟨_, _, rfl, rfl, FEightC_keep _ _ HC (by repeat' (first | (with_reducible exact Below.refl _ _) | (with_reducible assumption) | (with_reducible refine Below.alloc ?_ ?_ _) | (with_reducible refine Below.setCell ?_ ?_ _) | (with_reducible refine Below.drew ?_) | (with_reducible refine below_dn ?_ _) | (with_reducible refine Below.trans ?_ (Below.mono (by assumption) ?_)) | go_size)), ?_, ?_, ?_, ?_, ?_, ?_, ?_, ?_⟩ <;> (simp [*, go_sem, ↓IntWalk.iteOmega]; done))
  case rest =>
    obtain ⟨p, q, rfl, rfl, hC, a0, a1, a2, a3, b0, b1, b2, b3⟩ := hcut
    obtain ⟨n_0, n_1, n_2, n_3, n_4, n_5, n_6, n_7, hbC⟩ := hC
    have za := cell_lt a0
    have zb := cell_lt b0
    have zn := cell_lt n_0
    rw [hma'.out] at a0 a1 a2 a3
    rw [hmb'.out] at b0 b1 b2 b3
    go_wp2_with fail
    refine (fdo_c' _ _ _ _ _ _ _ _ _ _ _ _).mono ?_
    rintro e wF ⟨rfl, hbwF⟩
    obtain ⟨hcwF, hfwF, hzwF⟩ := bcell hbwF
    (try simp only [World.size_alloc, World.size_setCell, World.size_drew] at hcwF hfwF hzwF)
    simp only [Tn.eta, Sp.eta, Fa.eta, hd, Option.isSome_some, Option.isSome_none, Option.getD_some, Option.getD_none, if_true, Bool.false_eq_true, if_false]
    go_wp2_with fail
    refine (rdo_c _ _ _ _ _ _).mono ?_
    rintro e wR ⟨rfl, hbwR⟩
    obtain ⟨hcwR, hfwR, hzwR⟩ := bcell hbwR
    (try simp only [World.size_alloc, World.size_setCell, World.size_drew] at hcwR hfwR hzwR)
    simp only [hz, Alu.val_some, Alu.err_some, Alu.val_none, Alu.err_none]
    go_wp2_with (first | (go_at_call 22; (with_reducible refine (fright_c' _ _ _ _ _).mono ?_); rintro e w1 ⟨rfl, hb1⟩; obtain ⟨hc1, hf1, hz1⟩ := bcell hb1; (try simp only [World.size_alloc, World.size_setCell, World.size_drew] at hc1 hf1 hz1)) | (go_at_call 27; (with_reducible refine (fhas_c' _ _ _ _ _ _).mono ?_); rintro e w1 ⟨rfl, hb1⟩; obtain ⟨hc1, hf1, hz1⟩ := bcell hb1; (try simp only [World.size_alloc, World.size_setCell, World.size_drew] at hc1 hf1 hz1)))
    go_ret
    exact ⟨rfl, (by repeat' (first | (with_reducible exact Below.refl _ _) | (with_reducible assumption) | (with_reducible refine Below.alloc ?_ ?_ _) | (with_reducible refine Below.setCell ?_ ?_ _) | (with_reducible refine Below.drew ?_) | (with_reducible refine below_dn ?_ _) | (with_reducible refine Below.trans ?_ (Below.mono (by assumption) ?_)) | go_size))⟩

theorem factSound_walk (op : Int) (_ : 0 ≤ op ∧ op ≤ 255) (wd : Bool) (off : Int) (_ : -32768 ≤ off ∧ off ≤ 32767) (n0 n1 n2 n3 n4 n5 n6 n7 : BitVec 64) (w : World) : Calls Try.prog 6 #[.int .u8 op, .bool wd, .int .i16 off, .agg #[.int .u64 (N n0), .int .u64 (N n1), .int .u64 (N n2), .int .u64 (N n3), .int .u64 (N n4), .int .u64 (N n5), .int .u64 (N n6), .int .u64 (N n7)]] w fun e w' => e = .returned (.bool true) ∧ Below w.heap.size w w' := by
  obtain ⟨_, oa, ma⟩ := Fa.made_spec n0 n1 n2 n3
  obtain ⟨_, ob, mb⟩ := Fa.made_spec n4 n5 n6 n7
  rcases hz : Alu.go op wd off n0 n4 with _ | z
  · exact factSound_n op wd off n0 n1 n2 n3 n4 n5 n6 n7 _ _ rfl rfl hz (Fa.do_none hz) w
  · obtain ⟨f, hd, hh⟩ := Fa.do_sound oa ob ma mb hz
    exact factSound_y op wd off n0 n1 n2 n3 n4 n5 n6 n7 _ _ rfl rfl z f hz hd (Fa.has_iff.1 hh).1 hh w

end Hk
