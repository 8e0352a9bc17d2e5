/- The reference of states: put, Full; old memory is as it was. No condition but those in each statement. -/
import Derived.Test.YtjeanjbjngbfcaaProg
import Derived.Test.YtjeanjbjngbfcaaGp
import Derived.Test.YtjeanjbjngbfcaaSt1
import Derived.Test.YtjeanjbjngbfcaaSt2
import Derived.Test.YtjeanjbjngbfcaaSt3
import Derived.Test.YtjeanjbjngbfcaaSt4
import Derived.Test.YtjeanjbjngbfcaaRt1
namespace Hk
open Go Go.RowKit Go.Proofs
set_option linter.unusedSimpArgs false
set_option linter.unusedVariables false
set_option maxRecDepth 100000
attribute [go_sem] Tn.eta Sp.eta Fa.eta Vl.eta
set_option maxHeartbeats 1000000 in
theorem rtput1_c (s : St) (a : Nat) (ha : a < 512) (w : World) : Calls Try.prog 37 #[.agg (St.cells s), .int .i64 (a : Int)] w fun e w' => e = .returned (.bool (s.bset a)) ∧ Below w.heap.size w w' := by
  obtain ⟨r, hrr⟩ : ∃ r, r = a % 8 := ⟨_, rfl⟩
  obtain ⟨q, hqq⟩ : ∃ q, q = a / 8 := ⟨_, rfl⟩
  have hr : (a : Int) % 8 = (r : Int) := by omega
  have hq : (a : Int) / 8 = (q : Int) := by omega
  have hq64 : q < 64 := by omega
  have hr8 : r < 8 := by omega
  have hE : s.bset a = (((s.s q).p >>> r) % 2#8 == 1#8) := by rw [St.bset_sh _ _ hr8, hrr, hqq]; rfl
  rw [hE]
  clear hE hrr hqq
  go_enter Try.func37, Try.ntmps37
  go_wp2
  go_ret
  exact ⟨rfl, (by repeat' (first | (with_reducible exact Below.refl _ _) | (with_reducible assumption) | (with_reducible refine Below.alloc ?_ ?_ _) | (with_reducible refine Below.setCell ?_ ?_ _) | (with_reducible refine below_setRow ?_ ?_) | (with_reducible refine Below.drew ?_) | (with_reducible refine below_dn ?_ _) | (with_reducible refine Below.trans ?_ (Below.mono (by assumption) ?_)) | go_size))⟩

set_option maxHeartbeats 1000000 in
theorem rtfull_r (s : St) (o n : Int) (hs : s.right = false) (w : World) : Calls Try.prog 23 #[.agg (St.cells s), .int .i64 o, .int .i64 n] w fun e w' => e = .returned (.bool (s.full o n)) ∧ Below w.heap.size w w' := by
  have E : s.full o n = false := by unfold St.full St.fullArg; simp [*]
  rw [E]; clear E
  go_enter Try.func23, Try.ntmps23
  go_wp2_with (first | (go_at_call 24; (with_reducible refine (rtright_c _ _).mono ?_); rintro e w1 ⟨rfl, hb1⟩; obtain ⟨hc1, hf1, hz1⟩ := bcell hb1; have hk1 := bblk hb1; (try simp only [World.size_alloc, World.size_setCell, World.size_drew, setRow_size] at hc1 hf1 hz1 hk1)))
  all_goals (go_ret; exact ⟨rfl, (by repeat' (first | (with_reducible exact Below.refl _ _) | (with_reducible assumption) | (with_reducible refine Below.alloc ?_ ?_ _) | (with_reducible refine Below.setCell ?_ ?_ _) | (with_reducible refine below_setRow ?_ ?_) | (with_reducible refine Below.drew ?_) | (with_reducible refine below_dn ?_ _) | (with_reducible refine Below.trans ?_ (Below.mono (by assumption) ?_)) | go_size))⟩)

set_option maxHeartbeats 1000000 in
theorem rtfull_a (s : St) (o n : Int) (hs : s.right = true) (h : o < 0) (w : World) : Calls Try.prog 23 #[.agg (St.cells s), .int .i64 o, .int .i64 n] w fun e w' => e = .returned (.bool (s.full o n)) ∧ Below w.heap.size w w' := by
  have E : s.full o n = false := by unfold St.full St.fullArg; simp [*]
  rw [E]; clear E
  go_enter Try.func23, Try.ntmps23
  go_wp2_with (first | (go_at_call 24; (with_reducible refine (rtright_c _ _).mono ?_); rintro e w1 ⟨rfl, hb1⟩; obtain ⟨hc1, hf1, hz1⟩ := bcell hb1; have hk1 := bblk hb1; (try simp only [World.size_alloc, World.size_setCell, World.size_drew, setRow_size] at hc1 hf1 hz1 hk1)))
  all_goals (go_ret; exact ⟨rfl, (by repeat' (first | (with_reducible exact Below.refl _ _) | (with_reducible assumption) | (with_reducible refine Below.alloc ?_ ?_ _) | (with_reducible refine Below.setCell ?_ ?_ _) | (with_reducible refine below_setRow ?_ ?_) | (with_reducible refine Below.drew ?_) | (with_reducible refine below_dn ?_ _) | (with_reducible refine Below.trans ?_ (Below.mono (by assumption) ?_)) | go_size))⟩)

set_option maxHeartbeats 1000000 in
theorem rtfull_b (s : St) (o n : Int) (hs : s.right = true) (h0 : 0 ≤ o) (h : n < 0) (w : World) : Calls Try.prog 23 #[.agg (St.cells s), .int .i64 o, .int .i64 n] w fun e w' => e = .returned (.bool (s.full o n)) ∧ Below w.heap.size w w' := by
  have E : s.full o n = false := by unfold St.full St.fullArg; simp [*]
  rw [E]; clear E
  go_enter Try.func23, Try.ntmps23
  go_wp2_with (first | (go_at_call 24; (with_reducible refine (rtright_c _ _).mono ?_); rintro e w1 ⟨rfl, hb1⟩; obtain ⟨hc1, hf1, hz1⟩ := bcell hb1; have hk1 := bblk hb1; (try simp only [World.size_alloc, World.size_setCell, World.size_drew, setRow_size] at hc1 hf1 hz1 hk1)))
  all_goals (go_ret; exact ⟨rfl, (by repeat' (first | (with_reducible exact Below.refl _ _) | (with_reducible assumption) | (with_reducible refine Below.alloc ?_ ?_ _) | (with_reducible refine Below.setCell ?_ ?_ _) | (with_reducible refine below_setRow ?_ ?_) | (with_reducible refine Below.drew ?_) | (with_reducible refine below_dn ?_ _) | (with_reducible refine Below.trans ?_ (Below.mono (by assumption) ?_)) | go_size))⟩)

set_option maxHeartbeats 1000000 in
theorem rtfull_c0 (s : St) (o n : Int) (hs : s.right = true) (h0 : 0 ≤ o) (h1 : 0 ≤ n) (h : 512 < n) (w : World) : Calls Try.prog 23 #[.agg (St.cells s), .int .i64 o, .int .i64 n] w fun e w' => e = .returned (.bool (s.full o n)) ∧ Below w.heap.size w w' := by
  have E : s.full o n = false := by unfold St.full St.fullArg; simp [*]
  rw [E]; clear E
  go_enter Try.func23, Try.ntmps23
  go_wp2_with (first | (go_at_call 24; (with_reducible refine (rtright_c _ _).mono ?_); rintro e w1 ⟨rfl, hb1⟩; obtain ⟨hc1, hf1, hz1⟩ := bcell hb1; have hk1 := bblk hb1; (try simp only [World.size_alloc, World.size_setCell, World.size_drew, setRow_size] at hc1 hf1 hz1 hk1)))
  all_goals (go_ret; exact ⟨rfl, (by repeat' (first | (with_reducible exact Below.refl _ _) | (with_reducible assumption) | (with_reducible refine Below.alloc ?_ ?_ _) | (with_reducible refine Below.setCell ?_ ?_ _) | (with_reducible refine below_setRow ?_ ?_) | (with_reducible refine Below.drew ?_) | (with_reducible refine below_dn ?_ _) | (with_reducible refine Below.trans ?_ (Below.mono (by assumption) ?_)) | go_size))⟩)

set_option maxHeartbeats 1000000 in
theorem rtfull_d (s : St) (o n : Int) (hs : s.right = true) (h0 : 0 ≤ o) (h1 : 0 ≤ n) (h2 : n ≤ 512) (h : 512 - n < o) (w : World) : Calls Try.prog 23 #[.agg (St.cells s), .int .i64 o, .int .i64 n] w fun e w' => e = .returned (.bool (s.full o n)) ∧ Below w.heap.size w w' := by
  have E : s.full o n = false := by unfold St.full St.fullArg; simp [*]
  rw [E]; clear E
  go_enter Try.func23, Try.ntmps23
  go_wp2_with (first | (go_at_call 24; (with_reducible refine (rtright_c _ _).mono ?_); rintro e w1 ⟨rfl, hb1⟩; obtain ⟨hc1, hf1, hz1⟩ := bcell hb1; have hk1 := bblk hb1; (try simp only [World.size_alloc, World.size_setCell, World.size_drew, setRow_size] at hc1 hf1 hz1 hk1)))
  all_goals (go_ret; exact ⟨rfl, (by repeat' (first | (with_reducible exact Below.refl _ _) | (with_reducible assumption) | (with_reducible refine Below.alloc ?_ ?_ _) | (with_reducible refine Below.setCell ?_ ?_ _) | (with_reducible refine below_setRow ?_ ?_) | (with_reducible refine Below.drew ?_) | (with_reducible refine below_dn ?_ _) | (with_reducible refine Below.trans ?_ (Below.mono (by assumption) ?_)) | go_size))⟩)

set_option maxHeartbeats 4000000 in
theorem rtfull_f (s : St) (o n : Nat) (h2 : n ≤ 512) (h3 : o + n ≤ 512) (hs : s.right = true) (w : World) : Calls Try.prog 23 #[.agg (St.cells s), .int .i64 (o : Int), .int .i64 (n : Int)] w fun e w' => e = .returned (.bool (s.full (o : Int) (n : Int))) ∧ Below w.heap.size w w' := by
  have h3' : (o : Int) ≤ 512 - (n : Int) := by omega
  have h2' : (n : Int) ≤ 512 := by omega
  go_enter Try.func23, Try.ntmps23
  go_wp2_with (first | (go_at_call 24; (with_reducible refine (rtright_c _ _).mono ?_); rintro e w1 ⟨rfl, hb1⟩; obtain ⟨hc1, hf1, hz1⟩ := bcell hb1; have hk1 := bblk hb1; (try simp only [World.size_alloc, World.size_setCell, World.size_drew, setRow_size] at hc1 hf1 hz1 hk1)))
  have HB : Below (w.heap.size + 1) (w.alloc (.cells s.cells 38)) w1 := (by repeat' (first | (with_reducible exact Below.refl _ _) | (with_reducible assumption) | (with_reducible refine Below.alloc ?_ ?_ _) | (with_reducible refine Below.setCell ?_ ?_ _) | (with_reducible refine below_setRow ?_ ?_) | (with_reducible refine Below.drew ?_) | (with_reducible refine below_dn ?_ _) | (with_reducible refine Below.trans ?_ (Below.mono (by assumption) ?_)) | go_size))
  clear hb1 hc1 hf1 hz1 hk1
  go_loopw [7] (fun c wr => ∃ k : Nat, k ≤ n ∧ c = .int .i64 ((o + k : Nat) : Int) ∧ Hid (s.upB o k = true) ∧ Below (w.heap.size + 1) (w.alloc (.cells s.cells 38)) wr) (fun c _ => (o + n) - (intOf c).toNat)
  case atStart => exact ⟨0, by omega, rfl, Lib.hid (s.upB_zero o), HB⟩
  case round =>
    clear HB
    obtain ⟨k, hk, rfl, hup, hB⟩ := hrel
    have hB' : Below (w.alloc (.cells s.cells 38)).heap.size (w.alloc (.cells s.cells 38)) wr := by simpa using hB
    obtain ⟨hcB, hfB, hzB⟩ := bcell hB'
    have hkB := bblk hB'
    (try simp only [World.size_alloc] at hcB hfB hzB hkB)
    clear hB'
    generalize ha : o + k = a
    have ha' := Lib.hid ha
    by_cases hlt : a < o + n
    · have hlt' : (a : Int) < (o : Int) + (n : Int) := by omega
      clear ha
      cases hb : s.bset a
      · go_wp2_with (first | (go_at_call 37; (with_reducible refine (rtput1_c _ _ (by omega) _).mono ?_); rintro e w1 ⟨rfl, hb1⟩; obtain ⟨hc1, hf1, hz1⟩ := bcell hb1; have hk1 := bblk hb1; (try simp only [World.size_alloc, World.size_setCell, World.size_drew, setRow_size] at hc1 hf1 hz1 hk1)))
        have h10 : s.full (o : Int) (n : Int) = false := St.full_no (k := k) (by have := ha'.out; omega) (by rw [ha'.out]; exact hb)
        go_ret
        exact ⟨Eq.trans (b := Ending.returned (.bool false)) rfl (by rw [h10]), (by repeat' (first | (with_reducible exact Below.refl _ _) | (with_reducible assumption) | (with_reducible refine Below.alloc ?_ ?_ _) | (with_reducible refine Below.setCell ?_ ?_ _) | (with_reducible refine below_setRow ?_ ?_) | (with_reducible refine Below.drew ?_) | (with_reducible refine below_dn ?_ _) | (with_reducible refine Below.trans ?_ (Below.mono (by assumption) ?_)) | go_size))⟩
      · go_wp2_with (first | (go_at_call 37; (with_reducible refine (rtput1_c _ _ (by omega) _).mono ?_); rintro e w1 ⟨rfl, hb1⟩; obtain ⟨hc1, hf1, hz1⟩ := bcell hb1; have hk1 := bblk hb1; (try simp only [World.size_alloc, World.size_setCell, World.size_drew, setRow_size] at hc1 hf1 hz1 hk1)))
        go_roundw
        case rel => exact ⟨k + 1, by have := ha'.out; omega, by have := ha'.out; go_num, Lib.hid (St.upB_succ hup.out (by rw [ha'.out]; exact hb)), (by repeat' (first | (with_reducible exact Below.refl _ _) | (with_reducible assumption) | (with_reducible refine Below.alloc ?_ ?_ _) | (with_reducible refine Below.setCell ?_ ?_ _) | (with_reducible refine below_setRow ?_ ?_) | (with_reducible refine Below.drew ?_) | (with_reducible refine below_dn ?_ _) | (with_reducible refine Below.trans ?_ (Below.mono (by assumption) ?_)) | go_size))⟩
        case measure => simp [intOf]; omega
    · have hkn : k = n := by omega
      have hlt' : (o : Int) + (n : Int) ≤ (a : Int) := by omega
      have h11 := Lib.hid (show s.full (o : Int) (n : Int) = true from St.full_yes h3 hs (by rw [← hkn]; exact hup.out))
      clear hkn ha
      go_wp2
      go_ret
      exact ⟨Eq.trans (b := Ending.returned (.bool true)) rfl (by rw [h11.out]), (by repeat' (first | (with_reducible exact Below.refl _ _) | (with_reducible assumption) | (with_reducible refine Below.alloc ?_ ?_ _) | (with_reducible refine Below.setCell ?_ ?_ _) | (with_reducible refine below_setRow ?_ ?_) | (with_reducible refine Below.drew ?_) | (with_reducible refine below_dn ?_ _) | (with_reducible refine Below.trans ?_ (Below.mono (by assumption) ?_)) | go_size))⟩

theorem rtfull_c (s : St) (o n : Int) (w : World) : Calls Try.prog 23 #[.agg (St.cells s), .int .i64 o, .int .i64 n] w fun e w' => e = .returned (.bool (s.full o n)) ∧ Below w.heap.size w w' := by
  cases hs : s.right
  · exact rtfull_r s o n hs w
  by_cases h : o < 0
  · exact rtfull_a s o n hs h w
  have h0 : 0 ≤ o := by omega
  by_cases h : n < 0
  · exact rtfull_b s o n hs h0 h w
  have h1 : 0 ≤ n := by omega
  by_cases h : 512 < n
  · exact rtfull_c0 s o n hs h0 h1 h w
  have h2 : n ≤ 512 := by omega
  by_cases h : 512 - n < o
  · exact rtfull_d s o n hs h0 h1 h2 h w
  obtain ⟨a, rfl⟩ := Int.eq_ofNat_of_zero_le h0
  obtain ⟨m, rfl⟩ := Int.eq_ofNat_of_zero_le h1
  exact rtfull_f s a m (by omega) (by omega) hs w

end Hk
