/- The reference of states: Put; old memory is as it was. No condition but those in each statement. -/
import Derived.Test.YtjeanjbjngbfcaaProg
import Derived.Test.YtjeanjbjngbfcaaGp
import Derived.Test.YtjeanjbjngbfcaaSt1
import Derived.Test.YtjeanjbjngbfcaaSt2
import Derived.Test.YtjeanjbjngbfcaaSt3
import Derived.Test.YtjeanjbjngbfcaaSt4
import Derived.Test.YtjeanjbjngbfcaaSt5
import Derived.Test.YtjeanjbjngbfcaaSt7
import Derived.Test.YtjeanjbjngbfcaaGu
import Derived.Test.YtjeanjbjngbfcaaRt1
import Derived.Test.YtjeanjbjngbfcaaRt3
import Derived.Test.YtjeanjbjngbfcaaRt6
import Derived.Test.YtjeanjbjngbfcaaVl10
import Derived.Test.YtjeanjbjngbfcaaGl
namespace Hk
open Go Go.RowKit Go.Proofs
set_option linter.unusedSimpArgs false
set_option linter.unusedVariables false
set_option maxRecDepth 100000
attribute [go_sem] Tn.eta Sp.eta Fa.eta Vl.eta
set_option maxHeartbeats 4000000 in
theorem rtput_o2 (s : St) (o j : Nat) (f : Fa) (i off : Int) (hv : Vl.right ⟨1, f, i, off⟩ = true) (hs : s.right = true) (h1 : o ≤ 512) (hq : o / 8 = j) (hj : j < 64) (hf : St.fitsE (o : Int) 2 = 0) (w : World) : Calls Try.prog 20 #[.agg (St.cells s), .int .i64 (o : Int), .int .i64 2, .agg #[.int .u8 1, .int .u64 (N f.t.v), .int .u64 (N f.t.m), .int .u64 (N f.s.lo), .int .u64 (N f.s.hi), .int .i64 i, .int .i64 off]] w fun e w' => e = .returned (.tuple #[.agg (St.cells ((s.setP j ((s.s j).p ||| St.bits (o : Int) 2)).setV j Vl.zero)), .int .i64 0]) ∧ Below w.heap.size w w' := by
  have hsz : St.sized 2 = true := rfl
  have hE := St.putB_end s j o 2
  rw [show ((2 : Nat) : Int) = 2 from rfl] at hE
  rw [← hE]; clear hE
  have h12 := Lib.hid (St.putB_start s j o)
  have hqh := Lib.hid hq
  have hq' : (o : Int) / 8 = (j : Int) := by omega
  clear hq
  have hr8 := Lib.hid (show o % 8 + 2 ≤ 8 ∧ o + 2 ≤ 512 by have := (St.fits_in hf (by decide)); omega)
  go_enter Try.func20, Try.ntmps20
  go_wp2_with (first | (go_at_call 35; (with_reducible refine (rtsized_c _ _).mono ?_); rintro e w1 ⟨rfl, hb1⟩; obtain ⟨hc1, hf1, hz1⟩ := bcell hb1; have hk1 := bblk hb1; (try simp only [World.size_alloc, World.size_setCell, World.size_drew, setRow_size] at hc1 hf1 hz1 hk1)) | (go_at_call 24; (with_reducible refine (rtright_c _ _).mono ?_); rintro e w1 ⟨rfl, hb1⟩; obtain ⟨hc1, hf1, hz1⟩ := bcell hb1; have hk1 := bblk hb1; (try simp only [World.size_alloc, World.size_setCell, World.size_drew, setRow_size] at hc1 hf1 hz1 hk1)) | (go_at_call 13; (with_reducible refine (rvright_c' _ _ _ _ _ _ _ _).mono ?_); rintro e w1 ⟨rfl, hb1⟩; obtain ⟨hc1, hf1, hz1⟩ := bcell hb1; have hk1 := bblk hb1; (try simp only [World.size_alloc, World.size_setCell, World.size_drew] at hc1 hf1 hz1 hk1)) | (first | (go_at_call 36; (with_reducible refine (rtfits_1 _ _).mono ?_); rintro e w1 ⟨rfl, hb1⟩; obtain ⟨hc1, hf1, hz1⟩ := bcell hb1; have hk1 := bblk hb1; (try simp only [World.size_alloc, World.size_setCell, World.size_drew] at hc1 hf1 hz1 hk1)) | (go_at_call 36; (with_reducible refine (rtfits_2 _ _).mono ?_); rintro e w1 ⟨rfl, hb1⟩; obtain ⟨hc1, hf1, hz1⟩ := bcell hb1; have hk1 := bblk hb1; (try simp only [World.size_alloc, World.size_setCell, World.size_drew] at hc1 hf1 hz1 hk1)) | (go_at_call 36; (with_reducible refine (rtfits_4 _ _).mono ?_); rintro e w1 ⟨rfl, hb1⟩; obtain ⟨hc1, hf1, hz1⟩ := bcell hb1; have hk1 := bblk hb1; (try simp only [World.size_alloc, World.size_setCell, World.size_drew] at hc1 hf1 hz1 hk1)) | (go_at_call 36; (with_reducible refine (rtfits_8 _ _).mono ?_); rintro e w1 ⟨rfl, hb1⟩; obtain ⟨hc1, hf1, hz1⟩ := bcell hb1; have hk1 := bblk hb1; (try simp only [World.size_alloc, World.size_setCell, World.size_drew] at hc1 hf1 hz1 hk1))))
  have y1 : blk (w1.setRow w.heap.size (s.setV j ⟨0, ⟨⟨0#64, 0#64⟩, ⟨0#64, 0#64⟩⟩, 0, 0⟩).cells) w.heap.size = (s.putB j o 0).cells := by rw [h12.out]; simp [*, go_sem, ↓IntWalk.iteOmega]; rfl
  have y2 : ∀ i, (w1.setRow w.heap.size (s.setV j ⟨0, ⟨⟨0#64, 0#64⟩, ⟨0#64, 0#64⟩⟩, 0, 0⟩).cells).frozen? ⟨w.heap.size, i, none⟩ = false := by intro i; simp [*, go_sem, ↓IntWalk.iteOmega]
  have y3 : blk (w1.setRow w.heap.size (s.setV j ⟨0, ⟨⟨0#64, 0#64⟩, ⟨0#64, 0#64⟩⟩, 0, 0⟩).cells) (w.heap.size + 1 + 1) = St.zero.cells := by simp [*, go_sem, ↓IntWalk.iteOmega]
  have y4 : ∀ i, (w1.setRow w.heap.size (s.setV j ⟨0, ⟨⟨0#64, 0#64⟩, ⟨0#64, 0#64⟩⟩, 0, 0⟩).cells).frozen? ⟨(w.heap.size + 1 + 1), i, none⟩ = false := by intro i; simp [*, go_sem, ↓IntWalk.iteOmega]
  have y5 : Below w.heap.size w (w1.setRow w.heap.size (s.setV j ⟨0, ⟨⟨0#64, 0#64⟩, ⟨0#64, 0#64⟩⟩, 0, 0⟩).cells) := (by repeat' (first | (with_reducible exact Below.refl _ _) | (with_reducible assumption) | (with_reducible refine Below.alloc ?_ ?_ _) | (with_reducible refine Below.setCell ?_ ?_ _) | (with_reducible refine below_setRow ?_ ?_) | (with_reducible refine Below.drew ?_) | (with_reducible refine below_dn ?_ _) | (with_reducible refine Below.trans ?_ (Below.mono (by assumption) ?_)) | go_size))
  clear hb1 hc1 hf1 hz1 hk1
  go_loopw [11] (fun c wr => ∃ k : Nat, k ≤ 2 ∧ c = .int .i64 ((o + k : Nat) : Int) ∧ blk wr w.heap.size = (s.putB j o k).cells ∧ (∀ i, wr.frozen? ⟨w.heap.size, i, none⟩ = false) ∧ blk wr (w.heap.size + 1 + 1) = St.zero.cells ∧ (∀ i, wr.frozen? ⟨(w.heap.size + 1 + 1), i, none⟩ = false) ∧ Below w.heap.size w wr) (fun c _ => o + 2 - (intOf c).toNat)
  case atStart => exact ⟨0, by omega, rfl, y1, y2, y3, y4, y5⟩
  case round =>
    obtain ⟨k, hk, rfl, hX, hfX, hZ, hfZ, hB⟩ := hrel
    clear y1 y2 y3 y4 y5
    have zB : w.heap.size + 1 + 1 < wr.heap.size := blk_lt (by rw [hZ, St.cells_size]; decide)
    have hcell : wr.cell? ⟨w.heap.size, 77 + j * 8 + 7, none⟩ = some (.int .u8 (N8 ((s.putB j o k).s j).p)) := by rw [blk_cell, hX]; exact St.cells_put _ hj
    obtain ⟨a, ha⟩ : ∃ a, a = o + k := ⟨_, rfl⟩
    rw [← ha]
    have ha' := Lib.hid ha
    obtain ⟨r, hrr⟩ : ∃ r, r = a % 8 := ⟨_, rfl⟩
    have hr : (a : Int) % 8 = (r : Int) := by omega
    have hr88 : r < 8 := by omega
    have hrh := Lib.hid hrr
    have hsj := Lib.hid (St.putB_s s j o k)
    by_cases hlt : k < 2
    · have hlt' : (a : Int) < (o : Int) + 2 := by omega
      have h512 : a < 512 := by have := hr8.out; omega
      clear ha hrr
      cases hb : (s.putB j o k).bset a
      · go_wp2_with (first | (go_at_call 37; (with_reducible refine (rtput1_c _ _ (by omega) _).mono ?_); rintro e w1 ⟨rfl, hb1⟩; obtain ⟨hc1, hf1, hz1⟩ := bcell hb1; have hk1 := bblk hb1; (try simp only [World.size_alloc, World.size_setCell, World.size_drew, setRow_size] at hc1 hf1 hz1 hk1)))
        refine wp_region_class_tail (PutC w.heap.size j (s.putB j o k) w1) 15 (by kernel_rfl) (by kernel_rfl) ?_ ?_
        · refine ⟨?_, ?_, ?_, (by repeat' (first | (with_reducible exact Below.refl _ _) | (with_reducible assumption) | (with_reducible refine Below.alloc ?_ ?_ _) | (with_reducible refine Below.setCell ?_ ?_ _) | (with_reducible refine Below.drew ?_) | (with_reducible refine below_dn ?_ _) | (with_reducible refine Below.trans ?_ (Below.mono (by assumption) ?_)) | go_size))⟩
          all_goals first | (intro i; simp [*, go_sem, ↓IntWalk.iteOmega]; done) | (simp [*, go_sem, ↓IntWalk.iteOmega]; done)
        intro hN
        (try simp only [List.append])
        simp only [List.take_succ_cons, List.take_zero, List.drop_succ_cons, List.drop_zero]
        repeat (first
          | go_big_quiet_skip
          | (go_big_quiet_want
             first
               | (refine quiet_load_B8 rfl rfl (fun w' hC => by obtain ⟨k0, k1, k2, k3⟩ := hC; first | exact k0) ?_
                  simp only [Act.put, List.setIfInBounds_toArray, List.set_cons_succ, List.set_cons_zero]
                  go_big_quiet_on)
               | (refine quiet_load_W rfl rfl (fun w' hC => by obtain ⟨k0, k1, k2, k3⟩ := hC; first | exact k0) ?_
                  simp only [Act.put, List.setIfInBounds_toArray, List.set_cons_succ, List.set_cons_zero]
                  go_big_quiet_on)
               | (go_big_quiet_op
                  first
                    | go_big_quiet_on
                    | (apply Exists.intro
                       refine ⟨fun w' hC => ?_, ?_⟩
                       · (first | fail)
                         (try simp only [Vl.eta])
                         exact ⟨rfl, by first | exact hC | exact PutC_keep _ _ hC hb1⟩
                       go_big_quiet_on))))
        refine wpQuiet_nil ?_
        intro w9 hC
        obtain ⟨k0, k1, k2, k3⟩ := hC
        have z0 := cell_lt k0
        obtain ⟨hc9, hf9, hz9⟩ := bcell k3
        have hk9 := bblk k3
        go_wp2
        have hn := St.putB_no (s := s) (k := k) hqh.out (by have := hr8.out; omega) (by rw [← ha'.out]; exact hb)
        rw [← ha'.out, ← hrh.out] at hn
        go_roundw
        case rel =>
          refine ⟨k + 1, by omega, by have := ha'.out; go_num, ?_, ?_, ?_, ?_, (by repeat' (first | (with_reducible exact Below.refl _ _) | (with_reducible assumption) | (with_reducible refine Below.alloc ?_ ?_ _) | (with_reducible refine Below.setCell ?_ ?_ _) | (with_reducible refine below_setRow ?_ ?_) | (with_reducible refine Below.drew ?_) | (with_reducible refine below_dn ?_ _) | (with_reducible refine Below.trans ?_ (Below.mono (by assumption) ?_)) | go_size))⟩
          · rw [hn]; simp [*, go_sem, ↓IntWalk.iteOmega]
          · intro i; simp [*, go_sem, ↓IntWalk.iteOmega]
          · simp [*, go_sem, ↓IntWalk.iteOmega]
          · intro i; simp [*, go_sem, ↓IntWalk.iteOmega]
        case measure => clear hX hZ hfX hfZ; simp only [intOf]; omega
      · go_wp2_with (first | (go_at_call 37; (with_reducible refine (rtput1_c _ _ (by omega) _).mono ?_); rintro e w1 ⟨rfl, hb1⟩; obtain ⟨hc1, hf1, hz1⟩ := bcell hb1; have hk1 := bblk hb1; (try simp only [World.size_alloc, World.size_setCell, World.size_drew, setRow_size] at hc1 hf1 hz1 hk1)))
        have hn := St.putB_yes (s := s) (k := k) hqh.out (by have := hr8.out; omega) (by rw [← ha'.out]; exact hb)
        go_roundw
        case rel =>
          refine ⟨k + 1, by omega, by have := ha'.out; go_num, ?_, ?_, ?_, ?_, (by repeat' (first | (with_reducible exact Below.refl _ _) | (with_reducible assumption) | (with_reducible refine Below.alloc ?_ ?_ _) | (with_reducible refine Below.setCell ?_ ?_ _) | (with_reducible refine below_setRow ?_ ?_) | (with_reducible refine Below.drew ?_) | (with_reducible refine below_dn ?_ _) | (with_reducible refine Below.trans ?_ (Below.mono (by assumption) ?_)) | go_size))⟩
          · rw [hn]; simp [*, go_sem, ↓IntWalk.iteOmega]
          · intro i; simp [*, go_sem, ↓IntWalk.iteOmega]
          · simp [*, go_sem, ↓IntWalk.iteOmega]
          · intro i; simp [*, go_sem, ↓IntWalk.iteOmega]
        case measure => clear hX hZ hfX hfZ; simp only [intOf]; omega
    · obtain rfl : k = 2 := by omega
      have hlt' : (o : Int) + 2 ≤ (a : Int) := by omega
      clear ha hrr
      go_wp2
      refine bodyPost_ret (v := .tuple #[_, _]) ?_ rfl ⟨rfl, (by repeat' (first | (with_reducible exact Below.refl _ _) | (with_reducible assumption) | (with_reducible refine Below.alloc ?_ ?_ _) | (with_reducible refine Below.setCell ?_ ?_ _) | (with_reducible refine below_setRow ?_ ?_) | (with_reducible refine Below.drew ?_) | (with_reducible refine below_dn ?_ _) | (with_reducible refine Below.trans ?_ (Below.mono (by assumption) ?_)) | go_size))⟩
      refine (results_st2 (fn := Try.f20) rfl _ _ _ _ _ rfl rfl ?_ rfl).trans ?_
      · simp [*, go_sem, ↓IntWalk.iteOmega]
      · (simp [*, go_sem, ↓IntWalk.iteOmega] <;> rfl)

set_option maxHeartbeats 4000000 in
theorem rtput_o1 (s : St) (o j : Nat) (f : Fa) (i off : Int) (hv : Vl.right ⟨1, f, i, off⟩ = true) (hs : s.right = true) (h1 : o ≤ 512) (hq : o / 8 = j) (hj : j < 64) (hf : St.fitsE (o : Int) 1 = 0) (w : World) : Calls Try.prog 20 #[.agg (St.cells s), .int .i64 (o : Int), .int .i64 1, .agg #[.int .u8 1, .int .u64 (N f.t.v), .int .u64 (N f.t.m), .int .u64 (N f.s.lo), .int .u64 (N f.s.hi), .int .i64 i, .int .i64 off]] w fun e w' => e = .returned (.tuple #[.agg (St.cells ((s.setP j ((s.s j).p ||| St.bits (o : Int) 1)).setV j Vl.zero)), .int .i64 0]) ∧ Below w.heap.size w w' := by
  have hsz : St.sized 1 = true := rfl
  have hE := St.putB_end s j o 1
  rw [show ((1 : Nat) : Int) = 1 from rfl] at hE
  rw [← hE]; clear hE
  have h12 := Lib.hid (St.putB_start s j o)
  have hqh := Lib.hid hq
  have hq' : (o : Int) / 8 = (j : Int) := by omega
  clear hq
  have hr8 := Lib.hid (show o % 8 + 1 ≤ 8 ∧ o + 1 ≤ 512 by have := (St.fits_in hf (by decide)); omega)
  go_enter Try.func20, Try.ntmps20
  go_wp2_with (first | (go_at_call 35; (with_reducible refine (rtsized_c _ _).mono ?_); rintro e w1 ⟨rfl, hb1⟩; obtain ⟨hc1, hf1, hz1⟩ := bcell hb1; have hk1 := bblk hb1; (try simp only [World.size_alloc, World.size_setCell, World.size_drew, setRow_size] at hc1 hf1 hz1 hk1)) | (go_at_call 24; (with_reducible refine (rtright_c _ _).mono ?_); rintro e w1 ⟨rfl, hb1⟩; obtain ⟨hc1, hf1, hz1⟩ := bcell hb1; have hk1 := bblk hb1; (try simp only [World.size_alloc, World.size_setCell, World.size_drew, setRow_size] at hc1 hf1 hz1 hk1)) | (go_at_call 13; (with_reducible refine (rvright_c' _ _ _ _ _ _ _ _).mono ?_); rintro e w1 ⟨rfl, hb1⟩; obtain ⟨hc1, hf1, hz1⟩ := bcell hb1; have hk1 := bblk hb1; (try simp only [World.size_alloc, World.size_setCell, World.size_drew] at hc1 hf1 hz1 hk1)) | (first | (go_at_call 36; (with_reducible refine (rtfits_1 _ _).mono ?_); rintro e w1 ⟨rfl, hb1⟩; obtain ⟨hc1, hf1, hz1⟩ := bcell hb1; have hk1 := bblk hb1; (try simp only [World.size_alloc, World.size_setCell, World.size_drew] at hc1 hf1 hz1 hk1)) | (go_at_call 36; (with_reducible refine (rtfits_2 _ _).mono ?_); rintro e w1 ⟨rfl, hb1⟩; obtain ⟨hc1, hf1, hz1⟩ := bcell hb1; have hk1 := bblk hb1; (try simp only [World.size_alloc, World.size_setCell, World.size_drew] at hc1 hf1 hz1 hk1)) | (go_at_call 36; (with_reducible refine (rtfits_4 _ _).mono ?_); rintro e w1 ⟨rfl, hb1⟩; obtain ⟨hc1, hf1, hz1⟩ := bcell hb1; have hk1 := bblk hb1; (try simp only [World.size_alloc, World.size_setCell, World.size_drew] at hc1 hf1 hz1 hk1)) | (go_at_call 36; (with_reducible refine (rtfits_8 _ _).mono ?_); rintro e w1 ⟨rfl, hb1⟩; obtain ⟨hc1, hf1, hz1⟩ := bcell hb1; have hk1 := bblk hb1; (try simp only [World.size_alloc, World.size_setCell, World.size_drew] at hc1 hf1 hz1 hk1))))
  have y1 : blk (w1.setRow w.heap.size (s.setV j ⟨0, ⟨⟨0#64, 0#64⟩, ⟨0#64, 0#64⟩⟩, 0, 0⟩).cells) w.heap.size = (s.putB j o 0).cells := by rw [h12.out]; simp [*, go_sem, ↓IntWalk.iteOmega]; rfl
  have y2 : ∀ i, (w1.setRow w.heap.size (s.setV j ⟨0, ⟨⟨0#64, 0#64⟩, ⟨0#64, 0#64⟩⟩, 0, 0⟩).cells).frozen? ⟨w.heap.size, i, none⟩ = false := by intro i; simp [*, go_sem, ↓IntWalk.iteOmega]
  have y3 : blk (w1.setRow w.heap.size (s.setV j ⟨0, ⟨⟨0#64, 0#64⟩, ⟨0#64, 0#64⟩⟩, 0, 0⟩).cells) (w.heap.size + 1 + 1) = St.zero.cells := by simp [*, go_sem, ↓IntWalk.iteOmega]
  have y4 : ∀ i, (w1.setRow w.heap.size (s.setV j ⟨0, ⟨⟨0#64, 0#64⟩, ⟨0#64, 0#64⟩⟩, 0, 0⟩).cells).frozen? ⟨(w.heap.size + 1 + 1), i, none⟩ = false := by intro i; simp [*, go_sem, ↓IntWalk.iteOmega]
  have y5 : Below w.heap.size w (w1.setRow w.heap.size (s.setV j ⟨0, ⟨⟨0#64, 0#64⟩, ⟨0#64, 0#64⟩⟩, 0, 0⟩).cells) := (by repeat' (first | (with_reducible exact Below.refl _ _) | (with_reducible assumption) | (with_reducible refine Below.alloc ?_ ?_ _) | (with_reducible refine Below.setCell ?_ ?_ _) | (with_reducible refine below_setRow ?_ ?_) | (with_reducible refine Below.drew ?_) | (with_reducible refine below_dn ?_ _) | (with_reducible refine Below.trans ?_ (Below.mono (by assumption) ?_)) | go_size))
  clear hb1 hc1 hf1 hz1 hk1
  go_loopw [11] (fun c wr => ∃ k : Nat, k ≤ 1 ∧ c = .int .i64 ((o + k : Nat) : Int) ∧ blk wr w.heap.size = (s.putB j o k).cells ∧ (∀ i, wr.frozen? ⟨w.heap.size, i, none⟩ = false) ∧ blk wr (w.heap.size + 1 + 1) = St.zero.cells ∧ (∀ i, wr.frozen? ⟨(w.heap.size + 1 + 1), i, none⟩ = false) ∧ Below w.heap.size w wr) (fun c _ => o + 1 - (intOf c).toNat)
  case atStart => exact ⟨0, by omega, rfl, y1, y2, y3, y4, y5⟩
  case round =>
    obtain ⟨k, hk, rfl, hX, hfX, hZ, hfZ, hB⟩ := hrel
    clear y1 y2 y3 y4 y5
    have zB : w.heap.size + 1 + 1 < wr.heap.size := blk_lt (by rw [hZ, St.cells_size]; decide)
    have hcell : wr.cell? ⟨w.heap.size, 77 + j * 8 + 7, none⟩ = some (.int .u8 (N8 ((s.putB j o k).s j).p)) := by rw [blk_cell, hX]; exact St.cells_put _ hj
    obtain ⟨a, ha⟩ : ∃ a, a = o + k := ⟨_, rfl⟩
    rw [← ha]
    have ha' := Lib.hid ha
    obtain ⟨r, hrr⟩ : ∃ r, r = a % 8 := ⟨_, rfl⟩
    have hr : (a : Int) % 8 = (r : Int) := by omega
    have hr88 : r < 8 := by omega
    have hrh := Lib.hid hrr
    have hsj := Lib.hid (St.putB_s s j o k)
    by_cases hlt : k < 1
    · have hlt' : (a : Int) < (o : Int) + 1 := by omega
      have h512 : a < 512 := by have := hr8.out; omega
      clear ha hrr
      cases hb : (s.putB j o k).bset a
      · go_wp2_with (first | (go_at_call 37; (with_reducible refine (rtput1_c _ _ (by omega) _).mono ?_); rintro e w1 ⟨rfl, hb1⟩; obtain ⟨hc1, hf1, hz1⟩ := bcell hb1; have hk1 := bblk hb1; (try simp only [World.size_alloc, World.size_setCell, World.size_drew, setRow_size] at hc1 hf1 hz1 hk1)))
        refine wp_region_class_tail (PutC w.heap.size j (s.putB j o k) w1) 15 (by kernel_rfl) (by kernel_rfl) ?_ ?_
        · refine ⟨?_, ?_, ?_, (by repeat' (first | (with_reducible exact Below.refl _ _) | (with_reducible assumption) | (with_reducible refine Below.alloc ?_ ?_ _) | (with_reducible refine Below.setCell ?_ ?_ _) | (with_reducible refine Below.drew ?_) | (with_reducible refine below_dn ?_ _) | (with_reducible refine Below.trans ?_ (Below.mono (by assumption) ?_)) | go_size))⟩
          all_goals first | (intro i; simp [*, go_sem, ↓IntWalk.iteOmega]; done) | (simp [*, go_sem, ↓IntWalk.iteOmega]; done)
        intro hN
        (try simp only [List.append])
        simp only [List.take_succ_cons, List.take_zero, List.drop_succ_cons, List.drop_zero]
        repeat (first
          | go_big_quiet_skip
          | (go_big_quiet_want
             first
               | (refine quiet_load_B8 rfl rfl (fun w' hC => by obtain ⟨k0, k1, k2, k3⟩ := hC; first | exact k0) ?_
                  simp only [Act.put, List.setIfInBounds_toArray, List.set_cons_succ, List.set_cons_zero]
                  go_big_quiet_on)
               | (refine quiet_load_W rfl rfl (fun w' hC => by obtain ⟨k0, k1, k2, k3⟩ := hC; first | exact k0) ?_
                  simp only [Act.put, List.setIfInBounds_toArray, List.set_cons_succ, List.set_cons_zero]
                  go_big_quiet_on)
               | (go_big_quiet_op
                  first
                    | go_big_quiet_on
                    | (apply Exists.intro
                       refine ⟨fun w' hC => ?_, ?_⟩
                       · (first | fail)
                         (try simp only [Vl.eta])
                         exact ⟨rfl, by first | exact hC | exact PutC_keep _ _ hC hb1⟩
                       go_big_quiet_on))))
        refine wpQuiet_nil ?_
        intro w9 hC
        obtain ⟨k0, k1, k2, k3⟩ := hC
        have z0 := cell_lt k0
        obtain ⟨hc9, hf9, hz9⟩ := bcell k3
        have hk9 := bblk k3
        go_wp2
        have hn := St.putB_no (s := s) (k := k) hqh.out (by have := hr8.out; omega) (by rw [← ha'.out]; exact hb)
        rw [← ha'.out, ← hrh.out] at hn
        go_roundw
        case rel =>
          refine ⟨k + 1, by omega, by have := ha'.out; go_num, ?_, ?_, ?_, ?_, (by repeat' (first | (with_reducible exact Below.refl _ _) | (with_reducible assumption) | (with_reducible refine Below.alloc ?_ ?_ _) | (with_reducible refine Below.setCell ?_ ?_ _) | (with_reducible refine below_setRow ?_ ?_) | (with_reducible refine Below.drew ?_) | (with_reducible refine below_dn ?_ _) | (with_reducible refine Below.trans ?_ (Below.mono (by assumption) ?_)) | go_size))⟩
          · rw [hn]; simp [*, go_sem, ↓IntWalk.iteOmega]
          · intro i; simp [*, go_sem, ↓IntWalk.iteOmega]
          · simp [*, go_sem, ↓IntWalk.iteOmega]
          · intro i; simp [*, go_sem, ↓IntWalk.iteOmega]
        case measure => clear hX hZ hfX hfZ; simp only [intOf]; omega
      · go_wp2_with (first | (go_at_call 37; (with_reducible refine (rtput1_c _ _ (by omega) _).mono ?_); rintro e w1 ⟨rfl, hb1⟩; obtain ⟨hc1, hf1, hz1⟩ := bcell hb1; have hk1 := bblk hb1; (try simp only [World.size_alloc, World.size_setCell, World.size_drew, setRow_size] at hc1 hf1 hz1 hk1)))
        have hn := St.putB_yes (s := s) (k := k) hqh.out (by have := hr8.out; omega) (by rw [← ha'.out]; exact hb)
        go_roundw
        case rel =>
          refine ⟨k + 1, by omega, by have := ha'.out; go_num, ?_, ?_, ?_, ?_, (by repeat' (first | (with_reducible exact Below.refl _ _) | (with_reducible assumption) | (with_reducible refine Below.alloc ?_ ?_ _) | (with_reducible refine Below.setCell ?_ ?_ _) | (with_reducible refine below_setRow ?_ ?_) | (with_reducible refine Below.drew ?_) | (with_reducible refine below_dn ?_ _) | (with_reducible refine Below.trans ?_ (Below.mono (by assumption) ?_)) | go_size))⟩
          · rw [hn]; simp [*, go_sem, ↓IntWalk.iteOmega]
          · intro i; simp [*, go_sem, ↓IntWalk.iteOmega]
          · simp [*, go_sem, ↓IntWalk.iteOmega]
          · intro i; simp [*, go_sem, ↓IntWalk.iteOmega]
        case measure => clear hX hZ hfX hfZ; simp only [intOf]; omega
    · obtain rfl : k = 1 := by omega
      have hlt' : (o : Int) + 1 ≤ (a : Int) := by omega
      clear ha hrr
      go_wp2
      refine bodyPost_ret (v := .tuple #[_, _]) ?_ rfl ⟨rfl, (by repeat' (first | (with_reducible exact Below.refl _ _) | (with_reducible assumption) | (with_reducible refine Below.alloc ?_ ?_ _) | (with_reducible refine Below.setCell ?_ ?_ _) | (with_reducible refine below_setRow ?_ ?_) | (with_reducible refine Below.drew ?_) | (with_reducible refine below_dn ?_ _) | (with_reducible refine Below.trans ?_ (Below.mono (by assumption) ?_)) | go_size))⟩
      refine (results_st2 (fn := Try.f20) rfl _ _ _ _ _ rfl rfl ?_ rfl).trans ?_
      · simp [*, go_sem, ↓IntWalk.iteOmega]
      · (simp [*, go_sem, ↓IntWalk.iteOmega] <;> rfl)

set_option maxHeartbeats 4000000 in
theorem rtput_o4 (s : St) (o j : Nat) (f : Fa) (i off : Int) (hv : Vl.right ⟨1, f, i, off⟩ = true) (hs : s.right = true) (h1 : o ≤ 512) (hq : o / 8 = j) (hj : j < 64) (hf : St.fitsE (o : Int) 4 = 0) (w : World) : Calls Try.prog 20 #[.agg (St.cells s), .int .i64 (o : Int), .int .i64 4, .agg #[.int .u8 1, .int .u64 (N f.t.v), .int .u64 (N f.t.m), .int .u64 (N f.s.lo), .int .u64 (N f.s.hi), .int .i64 i, .int .i64 off]] w fun e w' => e = .returned (.tuple #[.agg (St.cells ((s.setP j ((s.s j).p ||| St.bits (o : Int) 4)).setV j Vl.zero)), .int .i64 0]) ∧ Below w.heap.size w w' := by
  have hsz : St.sized 4 = true := rfl
  have hE := St.putB_end s j o 4
  rw [show ((4 : Nat) : Int) = 4 from rfl] at hE
  rw [← hE]; clear hE
  have h12 := Lib.hid (St.putB_start s j o)
  have hqh := Lib.hid hq
  have hq' : (o : Int) / 8 = (j : Int) := by omega
  clear hq
  have hr8 := Lib.hid (show o % 8 + 4 ≤ 8 ∧ o + 4 ≤ 512 by have := (St.fits_in hf (by decide)); omega)
  go_enter Try.func20, Try.ntmps20
  go_wp2_with (first | (go_at_call 35; (with_reducible refine (rtsized_c _ _).mono ?_); rintro e w1 ⟨rfl, hb1⟩; obtain ⟨hc1, hf1, hz1⟩ := bcell hb1; have hk1 := bblk hb1; (try simp only [World.size_alloc, World.size_setCell, World.size_drew, setRow_size] at hc1 hf1 hz1 hk1)) | (go_at_call 24; (with_reducible refine (rtright_c _ _).mono ?_); rintro e w1 ⟨rfl, hb1⟩; obtain ⟨hc1, hf1, hz1⟩ := bcell hb1; have hk1 := bblk hb1; (try simp only [World.size_alloc, World.size_setCell, World.size_drew, setRow_size] at hc1 hf1 hz1 hk1)) | (go_at_call 13; (with_reducible refine (rvright_c' _ _ _ _ _ _ _ _).mono ?_); rintro e w1 ⟨rfl, hb1⟩; obtain ⟨hc1, hf1, hz1⟩ := bcell hb1; have hk1 := bblk hb1; (try simp only [World.size_alloc, World.size_setCell, World.size_drew] at hc1 hf1 hz1 hk1)) | (first | (go_at_call 36; (with_reducible refine (rtfits_1 _ _).mono ?_); rintro e w1 ⟨rfl, hb1⟩; obtain ⟨hc1, hf1, hz1⟩ := bcell hb1; have hk1 := bblk hb1; (try simp only [World.size_alloc, World.size_setCell, World.size_drew] at hc1 hf1 hz1 hk1)) | (go_at_call 36; (with_reducible refine (rtfits_2 _ _).mono ?_); rintro e w1 ⟨rfl, hb1⟩; obtain ⟨hc1, hf1, hz1⟩ := bcell hb1; have hk1 := bblk hb1; (try simp only [World.size_alloc, World.size_setCell, World.size_drew] at hc1 hf1 hz1 hk1)) | (go_at_call 36; (with_reducible refine (rtfits_4 _ _).mono ?_); rintro e w1 ⟨rfl, hb1⟩; obtain ⟨hc1, hf1, hz1⟩ := bcell hb1; have hk1 := bblk hb1; (try simp only [World.size_alloc, World.size_setCell, World.size_drew] at hc1 hf1 hz1 hk1)) | (go_at_call 36; (with_reducible refine (rtfits_8 _ _).mono ?_); rintro e w1 ⟨rfl, hb1⟩; obtain ⟨hc1, hf1, hz1⟩ := bcell hb1; have hk1 := bblk hb1; (try simp only [World.size_alloc, World.size_setCell, World.size_drew] at hc1 hf1 hz1 hk1))))
  have y1 : blk (w1.setRow w.heap.size (s.setV j ⟨0, ⟨⟨0#64, 0#64⟩, ⟨0#64, 0#64⟩⟩, 0, 0⟩).cells) w.heap.size = (s.putB j o 0).cells := by rw [h12.out]; simp [*, go_sem, ↓IntWalk.iteOmega]; rfl
  have y2 : ∀ i, (w1.setRow w.heap.size (s.setV j ⟨0, ⟨⟨0#64, 0#64⟩, ⟨0#64, 0#64⟩⟩, 0, 0⟩).cells).frozen? ⟨w.heap.size, i, none⟩ = false := by intro i; simp [*, go_sem, ↓IntWalk.iteOmega]
  have y3 : blk (w1.setRow w.heap.size (s.setV j ⟨0, ⟨⟨0#64, 0#64⟩, ⟨0#64, 0#64⟩⟩, 0, 0⟩).cells) (w.heap.size + 1 + 1) = St.zero.cells := by simp [*, go_sem, ↓IntWalk.iteOmega]
  have y4 : ∀ i, (w1.setRow w.heap.size (s.setV j ⟨0, ⟨⟨0#64, 0#64⟩, ⟨0#64, 0#64⟩⟩, 0, 0⟩).cells).frozen? ⟨(w.heap.size + 1 + 1), i, none⟩ = false := by intro i; simp [*, go_sem, ↓IntWalk.iteOmega]
  have y5 : Below w.heap.size w (w1.setRow w.heap.size (s.setV j ⟨0, ⟨⟨0#64, 0#64⟩, ⟨0#64, 0#64⟩⟩, 0, 0⟩).cells) := (by repeat' (first | (with_reducible exact Below.refl _ _) | (with_reducible assumption) | (with_reducible refine Below.alloc ?_ ?_ _) | (with_reducible refine Below.setCell ?_ ?_ _) | (with_reducible refine below_setRow ?_ ?_) | (with_reducible refine Below.drew ?_) | (with_reducible refine below_dn ?_ _) | (with_reducible refine Below.trans ?_ (Below.mono (by assumption) ?_)) | go_size))
  clear hb1 hc1 hf1 hz1 hk1
  go_loopw [11] (fun c wr => ∃ k : Nat, k ≤ 4 ∧ c = .int .i64 ((o + k : Nat) : Int) ∧ blk wr w.heap.size = (s.putB j o k).cells ∧ (∀ i, wr.frozen? ⟨w.heap.size, i, none⟩ = false) ∧ blk wr (w.heap.size + 1 + 1) = St.zero.cells ∧ (∀ i, wr.frozen? ⟨(w.heap.size + 1 + 1), i, none⟩ = false) ∧ Below w.heap.size w wr) (fun c _ => o + 4 - (intOf c).toNat)
  case atStart => exact ⟨0, by omega, rfl, y1, y2, y3, y4, y5⟩
  case round =>
    obtain ⟨k, hk, rfl, hX, hfX, hZ, hfZ, hB⟩ := hrel
    clear y1 y2 y3 y4 y5
    have zB : w.heap.size + 1 + 1 < wr.heap.size := blk_lt (by rw [hZ, St.cells_size]; decide)
    have hcell : wr.cell? ⟨w.heap.size, 77 + j * 8 + 7, none⟩ = some (.int .u8 (N8 ((s.putB j o k).s j).p)) := by rw [blk_cell, hX]; exact St.cells_put _ hj
    obtain ⟨a, ha⟩ : ∃ a, a = o + k := ⟨_, rfl⟩
    rw [← ha]
    have ha' := Lib.hid ha
    obtain ⟨r, hrr⟩ : ∃ r, r = a % 8 := ⟨_, rfl⟩
    have hr : (a : Int) % 8 = (r : Int) := by omega
    have hr88 : r < 8 := by omega
    have hrh := Lib.hid hrr
    have hsj := Lib.hid (St.putB_s s j o k)
    by_cases hlt : k < 4
    · have hlt' : (a : Int) < (o : Int) + 4 := by omega
      have h512 : a < 512 := by have := hr8.out; omega
      clear ha hrr
      cases hb : (s.putB j o k).bset a
      · go_wp2_with (first | (go_at_call 37; (with_reducible refine (rtput1_c _ _ (by omega) _).mono ?_); rintro e w1 ⟨rfl, hb1⟩; obtain ⟨hc1, hf1, hz1⟩ := bcell hb1; have hk1 := bblk hb1; (try simp only [World.size_alloc, World.size_setCell, World.size_drew, setRow_size] at hc1 hf1 hz1 hk1)))
        refine wp_region_class_tail (PutC w.heap.size j (s.putB j o k) w1) 15 (by kernel_rfl) (by kernel_rfl) ?_ ?_
        · refine ⟨?_, ?_, ?_, (by repeat' (first | (with_reducible exact Below.refl _ _) | (with_reducible assumption) | (with_reducible refine Below.alloc ?_ ?_ _) | (with_reducible refine Below.setCell ?_ ?_ _) | (with_reducible refine Below.drew ?_) | (with_reducible refine below_dn ?_ _) | (with_reducible refine Below.trans ?_ (Below.mono (by assumption) ?_)) | go_size))⟩
          all_goals first | (intro i; simp [*, go_sem, ↓IntWalk.iteOmega]; done) | (simp [*, go_sem, ↓IntWalk.iteOmega]; done)
        intro hN
        (try simp only [List.append])
        simp only [List.take_succ_cons, List.take_zero, List.drop_succ_cons, List.drop_zero]
        repeat (first
          | go_big_quiet_skip
          | (go_big_quiet_want
             first
               | (refine quiet_load_B8 rfl rfl (fun w' hC => by obtain ⟨k0, k1, k2, k3⟩ := hC; first | exact k0) ?_
                  simp only [Act.put, List.setIfInBounds_toArray, List.set_cons_succ, List.set_cons_zero]
                  go_big_quiet_on)
               | (refine quiet_load_W rfl rfl (fun w' hC => by obtain ⟨k0, k1, k2, k3⟩ := hC; first | exact k0) ?_
                  simp only [Act.put, List.setIfInBounds_toArray, List.set_cons_succ, List.set_cons_zero]
                  go_big_quiet_on)
               | (go_big_quiet_op
                  first
                    | go_big_quiet_on
                    | (apply Exists.intro
                       refine ⟨fun w' hC => ?_, ?_⟩
                       · (first | fail)
                         (try simp only [Vl.eta])
                         exact ⟨rfl, by first | exact hC | exact PutC_keep _ _ hC hb1⟩
                       go_big_quiet_on))))
        refine wpQuiet_nil ?_
        intro w9 hC
        obtain ⟨k0, k1, k2, k3⟩ := hC
        have z0 := cell_lt k0
        obtain ⟨hc9, hf9, hz9⟩ := bcell k3
        have hk9 := bblk k3
        go_wp2
        have hn := St.putB_no (s := s) (k := k) hqh.out (by have := hr8.out; omega) (by rw [← ha'.out]; exact hb)
        rw [← ha'.out, ← hrh.out] at hn
        go_roundw
        case rel =>
          refine ⟨k + 1, by omega, by have := ha'.out; go_num, ?_, ?_, ?_, ?_, (by repeat' (first | (with_reducible exact Below.refl _ _) | (with_reducible assumption) | (with_reducible refine Below.alloc ?_ ?_ _) | (with_reducible refine Below.setCell ?_ ?_ _) | (with_reducible refine below_setRow ?_ ?_) | (with_reducible refine Below.drew ?_) | (with_reducible refine below_dn ?_ _) | (with_reducible refine Below.trans ?_ (Below.mono (by assumption) ?_)) | go_size))⟩
          · rw [hn]; simp [*, go_sem, ↓IntWalk.iteOmega]
          · intro i; simp [*, go_sem, ↓IntWalk.iteOmega]
          · simp [*, go_sem, ↓IntWalk.iteOmega]
          · intro i; simp [*, go_sem, ↓IntWalk.iteOmega]
        case measure => clear hX hZ hfX hfZ; simp only [intOf]; omega
      · go_wp2_with (first | (go_at_call 37; (with_reducible refine (rtput1_c _ _ (by omega) _).mono ?_); rintro e w1 ⟨rfl, hb1⟩; obtain ⟨hc1, hf1, hz1⟩ := bcell hb1; have hk1 := bblk hb1; (try simp only [World.size_alloc, World.size_setCell, World.size_drew, setRow_size] at hc1 hf1 hz1 hk1)))
        have hn := St.putB_yes (s := s) (k := k) hqh.out (by have := hr8.out; omega) (by rw [← ha'.out]; exact hb)
        go_roundw
        case rel =>
          refine ⟨k + 1, by omega, by have := ha'.out; go_num, ?_, ?_, ?_, ?_, (by repeat' (first | (with_reducible exact Below.refl _ _) | (with_reducible assumption) | (with_reducible refine Below.alloc ?_ ?_ _) | (with_reducible refine Below.setCell ?_ ?_ _) | (with_reducible refine below_setRow ?_ ?_) | (with_reducible refine Below.drew ?_) | (with_reducible refine below_dn ?_ _) | (with_reducible refine Below.trans ?_ (Below.mono (by assumption) ?_)) | go_size))⟩
          · rw [hn]; simp [*, go_sem, ↓IntWalk.iteOmega]
          · intro i; simp [*, go_sem, ↓IntWalk.iteOmega]
          · simp [*, go_sem, ↓IntWalk.iteOmega]
          · intro i; simp [*, go_sem, ↓IntWalk.iteOmega]
        case measure => clear hX hZ hfX hfZ; simp only [intOf]; omega
    · obtain rfl : k = 4 := by omega
      have hlt' : (o : Int) + 4 ≤ (a : Int) := by omega
      clear ha hrr
      go_wp2
      refine bodyPost_ret (v := .tuple #[_, _]) ?_ rfl ⟨rfl, (by repeat' (first | (with_reducible exact Below.refl _ _) | (with_reducible assumption) | (with_reducible refine Below.alloc ?_ ?_ _) | (with_reducible refine Below.setCell ?_ ?_ _) | (with_reducible refine below_setRow ?_ ?_) | (with_reducible refine Below.drew ?_) | (with_reducible refine below_dn ?_ _) | (with_reducible refine Below.trans ?_ (Below.mono (by assumption) ?_)) | go_size))⟩
      refine (results_st2 (fn := Try.f20) rfl _ _ _ _ _ rfl rfl ?_ rfl).trans ?_
      · simp [*, go_sem, ↓IntWalk.iteOmega]
      · (simp [*, go_sem, ↓IntWalk.iteOmega] <;> rfl)

theorem rtput_ok1 (s : St) (o : Int) (j : Nat) (f : Fa) (i off : Int) (hv : Vl.right ⟨1, f, i, off⟩ = true) (hs : s.right = true) (h0 : 0 ≤ o) (h1 : o ≤ 512) (hq : o / 8 = (j : Int)) (hj : j < 64) (hf : St.fitsE o 1 = 0) (w : World) : Calls Try.prog 20 #[.agg (St.cells s), .int .i64 o, .int .i64 1, .agg #[.int .u8 1, .int .u64 (N f.t.v), .int .u64 (N f.t.m), .int .u64 (N f.s.lo), .int .u64 (N f.s.hi), .int .i64 i, .int .i64 off]] w fun e w' => e = .returned (.tuple #[.agg (St.cells ((s.setP j ((s.s j).p ||| St.bits o 1)).setV j Vl.zero)), .int .i64 0]) ∧ Below w.heap.size w w' := by
  obtain ⟨a, rfl⟩ := Int.eq_ofNat_of_zero_le h0
  exact rtput_o1 s a j f i off hv hs (by omega) (by omega) hj hf w

theorem rtput_ok2 (s : St) (o : Int) (j : Nat) (f : Fa) (i off : Int) (hv : Vl.right ⟨1, f, i, off⟩ = true) (hs : s.right = true) (h0 : 0 ≤ o) (h1 : o ≤ 512) (hq : o / 8 = (j : Int)) (hj : j < 64) (hf : St.fitsE o 2 = 0) (w : World) : Calls Try.prog 20 #[.agg (St.cells s), .int .i64 o, .int .i64 2, .agg #[.int .u8 1, .int .u64 (N f.t.v), .int .u64 (N f.t.m), .int .u64 (N f.s.lo), .int .u64 (N f.s.hi), .int .i64 i, .int .i64 off]] w fun e w' => e = .returned (.tuple #[.agg (St.cells ((s.setP j ((s.s j).p ||| St.bits o 2)).setV j Vl.zero)), .int .i64 0]) ∧ Below w.heap.size w w' := by
  obtain ⟨a, rfl⟩ := Int.eq_ofNat_of_zero_le h0
  exact rtput_o2 s a j f i off hv hs (by omega) (by omega) hj hf w

theorem rtput_ok4 (s : St) (o : Int) (j : Nat) (f : Fa) (i off : Int) (hv : Vl.right ⟨1, f, i, off⟩ = true) (hs : s.right = true) (h0 : 0 ≤ o) (h1 : o ≤ 512) (hq : o / 8 = (j : Int)) (hj : j < 64) (hf : St.fitsE o 4 = 0) (w : World) : Calls Try.prog 20 #[.agg (St.cells s), .int .i64 o, .int .i64 4, .agg #[.int .u8 1, .int .u64 (N f.t.v), .int .u64 (N f.t.m), .int .u64 (N f.s.lo), .int .u64 (N f.s.hi), .int .i64 i, .int .i64 off]] w fun e w' => e = .returned (.tuple #[.agg (St.cells ((s.setP j ((s.s j).p ||| St.bits o 4)).setV j Vl.zero)), .int .i64 0]) ∧ Below w.heap.size w w' := by
  obtain ⟨a, rfl⟩ := Int.eq_ofNat_of_zero_le h0
  exact rtput_o4 s a j f i off hv hs (by omega) (by omega) hj hf w

theorem rtput_c (s : St) (o n : Int) (v : Vl) (w : World) : Calls Try.prog 20 #[.agg (St.cells s), .int .i64 o, .int .i64 n, .agg #[.int .u8 v.k, .int .u64 (N v.f.t.v), .int .u64 (N v.f.t.m), .int .u64 (N v.f.s.lo), .int .u64 (N v.f.s.hi), .int .i64 v.i, .int .i64 v.off]] w fun e w' => e = .returned (.tuple #[.agg (St.cells (s.put o n v)), .int .i64 (s.putE o n v)]) ∧ Below w.heap.size w w' := by
  cases hs : s.right
  · exact rtput_r s o n v hs w
  cases h : St.sized n
  · exact rtput_a s o n v h hs w
  by_cases hk : v.k = 0
  · obtain ⟨k, f, i, off⟩ := v
    obtain rfl : k = 0 := hk
    exact rtput_c0 s o n f i off h hs w
  cases hv : Vl.right v
  · exact rtput_b s o n v h hv hk hs w
  by_cases h8 : n < 8
  · by_cases hk1 : v.k = 1
    · obtain ⟨k, f, i, off⟩ := v
      obtain rfl : k = 1 := hk1
      have hn : n = 1 ∨ n = 2 ∨ n = 4 := by have := St.sized_is h; omega
      clear h8 h hk
      rcases hn with rfl | rfl | rfl
      · have hA : s.putArg 1 ⟨1, f, i, off⟩ = true := by simp [St.putArg, St.sized, *]
        have E1 := St.putE_ok (o := o) hA
        rcases St.fits_3 o 1 with hf | hf | hf
        · obtain ⟨j, hq, hj, h0, h1⟩ := St.fits_j hf (by decide)
          rw [E1, hf, St.put_ok hA hf hq]
          exact rtput_ok1 s o j f i off hv hs h0 h1 hq hj hf w
        · rw [E1, hf, St.put_no hA (by rw [hf]; decide)]; exact rtput_no1_80 s o f i off hv hs hf w
        · rw [E1, hf, St.put_no hA (by rw [hf]; decide)]; exact rtput_no1_130 s o f i off hv hs hf w
      · have hA : s.putArg 2 ⟨1, f, i, off⟩ = true := by simp [St.putArg, St.sized, *]
        have E1 := St.putE_ok (o := o) hA
        rcases St.fits_3 o 2 with hf | hf | hf
        · obtain ⟨j, hq, hj, h0, h1⟩ := St.fits_j hf (by decide)
          rw [E1, hf, St.put_ok hA hf hq]
          exact rtput_ok2 s o j f i off hv hs h0 h1 hq hj hf w
        · rw [E1, hf, St.put_no hA (by rw [hf]; decide)]; exact rtput_no2_80 s o f i off hv hs hf w
        · rw [E1, hf, St.put_no hA (by rw [hf]; decide)]; exact rtput_no2_130 s o f i off hv hs hf w
      · have hA : s.putArg 4 ⟨1, f, i, off⟩ = true := by simp [St.putArg, St.sized, *]
        have E1 := St.putE_ok (o := o) hA
        rcases St.fits_3 o 4 with hf | hf | hf
        · obtain ⟨j, hq, hj, h0, h1⟩ := St.fits_j hf (by decide)
          rw [E1, hf, St.put_ok hA hf hq]
          exact rtput_ok4 s o j f i off hv hs h0 h1 hq hj hf w
        · rw [E1, hf, St.put_no hA (by rw [hf]; decide)]; exact rtput_no4_80 s o f i off hv hs hf w
        · rw [E1, hf, St.put_no hA (by rw [hf]; decide)]; exact rtput_no4_130 s o f i off hv hs hf w
    · exact rtput_d s o n v h hv hk h8 hk1 hs w
  · have hn8 : n = 8 := by have := St.sized_is h; omega
    subst hn8
    have hA : s.putArg 8 v = true := by simp [St.putArg, St.sized, *]
    have E1 := St.putE_ok (o := o) hA
    rcases St.fits_3 o 8 with hf | hf | hf
    · obtain ⟨j, hq, hj, h0, h1⟩ := St.fits_j hf (by decide)
      rw [E1, hf, St.put_ok hA hf hq]
      exact rtput_ok8 s o j v hk hv hs h0 h1 hq hj hf w
    · rw [E1, hf, St.put_no hA (by rw [hf]; decide)]; exact rtput_no8_80 s o v hk hv hs hf w
    · rw [E1, hf, St.put_no hA (by rw [hf]; decide)]; exact rtput_no8_130 s o v hk hv hs hf w

end Hk
