/- Package state: Full; old memory is as it was. No condition but those in each statement. -/
import Derived.Test.YtjeanjbjngbfcaaProg
import Derived.Test.YtjeanjbjngbfcaaGp
import Derived.Test.YtjeanjbjngbfcaaSt1
import Derived.Test.YtjeanjbjngbfcaaSt2
import Derived.Test.YtjeanjbjngbfcaaSt3
import Derived.Test.YtjeanjbjngbfcaaSt4
import Derived.Test.YtjeanjbjngbfcaaSt5
import Derived.Test.YtjeanjbjngbfcaaSt6
import Derived.Outline
namespace Hk
open Go Go.RowKit Go.Proofs
set_option linter.unusedSimpArgs false
set_option linter.unusedVariables false
set_option maxRecDepth 100000
attribute [go_sem] Tn.eta Sp.eta Fa.eta Vl.eta
set_option maxHeartbeats 1000000 in
theorem tfull_a (s : St) (o n : Int) (h : o < 0) (w : World) : Calls Try.prog 16 #[.agg (St.cells s), .int .i64 o, .int .i64 n] w fun e w' => e = .returned (.bool (s.full o n)) ∧ Below w.heap.size w w' := by
  have E : s.full o n = false := by unfold St.full St.fullArg; simp [*]
  rw [E]; clear E
  go_enter Try.func16, Try.ntmps16
  go_wp2_with (first | (go_at_call 17; (with_reducible refine (tright_c _ _).mono ?_); rintro e w1 ⟨rfl, hb1⟩; obtain ⟨hc1, hf1, hz1⟩ := bcell hb1; have hk1 := bblk hb1; (try simp only [World.size_alloc, World.size_setCell, World.size_drew, setRow_size] at hc1 hf1 hz1 hk1)))
  go_ret
  exact ⟨rfl, (by repeat' (first | (with_reducible exact Below.refl _ _) | (with_reducible assumption) | (with_reducible refine Below.alloc ?_ ?_ _) | (with_reducible refine Below.setCell ?_ ?_ _) | (with_reducible refine below_setRow ?_ ?_) | (with_reducible refine Below.drew ?_) | (with_reducible refine below_dn ?_ _) | (with_reducible refine Below.trans ?_ (Below.mono (by assumption) ?_)) | go_size))⟩

set_option maxHeartbeats 1000000 in
theorem tfull_b (s : St) (o n : Int) (h0 : 0 ≤ o) (h : n < 0) (w : World) : Calls Try.prog 16 #[.agg (St.cells s), .int .i64 o, .int .i64 n] w fun e w' => e = .returned (.bool (s.full o n)) ∧ Below w.heap.size w w' := by
  have E : s.full o n = false := by unfold St.full St.fullArg; simp [*]
  rw [E]; clear E
  go_enter Try.func16, Try.ntmps16
  go_wp2_with (first | (go_at_call 17; (with_reducible refine (tright_c _ _).mono ?_); rintro e w1 ⟨rfl, hb1⟩; obtain ⟨hc1, hf1, hz1⟩ := bcell hb1; have hk1 := bblk hb1; (try simp only [World.size_alloc, World.size_setCell, World.size_drew, setRow_size] at hc1 hf1 hz1 hk1)))
  go_ret
  exact ⟨rfl, (by repeat' (first | (with_reducible exact Below.refl _ _) | (with_reducible assumption) | (with_reducible refine Below.alloc ?_ ?_ _) | (with_reducible refine Below.setCell ?_ ?_ _) | (with_reducible refine below_setRow ?_ ?_) | (with_reducible refine Below.drew ?_) | (with_reducible refine below_dn ?_ _) | (with_reducible refine Below.trans ?_ (Below.mono (by assumption) ?_)) | go_size))⟩

set_option maxHeartbeats 1000000 in
theorem tfull_c0 (s : St) (o n : Int) (h0 : 0 ≤ o) (h1 : 0 ≤ n) (h : 512 < n) (w : World) : Calls Try.prog 16 #[.agg (St.cells s), .int .i64 o, .int .i64 n] w fun e w' => e = .returned (.bool (s.full o n)) ∧ Below w.heap.size w w' := by
  have E : s.full o n = false := by unfold St.full St.fullArg; simp [*]
  rw [E]; clear E
  go_enter Try.func16, Try.ntmps16
  go_wp2_with (first | (go_at_call 17; (with_reducible refine (tright_c _ _).mono ?_); rintro e w1 ⟨rfl, hb1⟩; obtain ⟨hc1, hf1, hz1⟩ := bcell hb1; have hk1 := bblk hb1; (try simp only [World.size_alloc, World.size_setCell, World.size_drew, setRow_size] at hc1 hf1 hz1 hk1)))
  go_ret
  exact ⟨rfl, (by repeat' (first | (with_reducible exact Below.refl _ _) | (with_reducible assumption) | (with_reducible refine Below.alloc ?_ ?_ _) | (with_reducible refine Below.setCell ?_ ?_ _) | (with_reducible refine below_setRow ?_ ?_) | (with_reducible refine Below.drew ?_) | (with_reducible refine below_dn ?_ _) | (with_reducible refine Below.trans ?_ (Below.mono (by assumption) ?_)) | go_size))⟩

set_option maxHeartbeats 1000000 in
theorem tfull_d (s : St) (o n : Int) (h0 : 0 ≤ o) (h1 : 0 ≤ n) (h2 : n ≤ 512) (h : 512 - n < o) (w : World) : Calls Try.prog 16 #[.agg (St.cells s), .int .i64 o, .int .i64 n] w fun e w' => e = .returned (.bool (s.full o n)) ∧ Below w.heap.size w w' := by
  have E : s.full o n = false := by unfold St.full St.fullArg; simp [*]
  rw [E]; clear E
  go_enter Try.func16, Try.ntmps16
  go_wp2_with (first | (go_at_call 17; (with_reducible refine (tright_c _ _).mono ?_); rintro e w1 ⟨rfl, hb1⟩; obtain ⟨hc1, hf1, hz1⟩ := bcell hb1; have hk1 := bblk hb1; (try simp only [World.size_alloc, World.size_setCell, World.size_drew, setRow_size] at hc1 hf1 hz1 hk1)))
  go_ret
  exact ⟨rfl, (by repeat' (first | (with_reducible exact Below.refl _ _) | (with_reducible assumption) | (with_reducible refine Below.alloc ?_ ?_ _) | (with_reducible refine Below.setCell ?_ ?_ _) | (with_reducible refine below_setRow ?_ ?_) | (with_reducible refine Below.drew ?_) | (with_reducible refine below_dn ?_ _) | (with_reducible refine Below.trans ?_ (Below.mono (by assumption) ?_)) | go_size))⟩

set_option maxHeartbeats 1000000 in
theorem tfull_e (s : St) (o n : Int) (h0 : 0 ≤ o) (h1 : 0 ≤ n) (h2 : n ≤ 512) (h3 : o ≤ 512 - n) (hs : s.right = false) (w : World) : Calls Try.prog 16 #[.agg (St.cells s), .int .i64 o, .int .i64 n] w fun e w' => e = .returned (.bool (s.full o n)) ∧ Below w.heap.size w w' := by
  have E : s.full o n = false := by unfold St.full St.fullArg; simp [*]
  rw [E]; clear E
  go_enter Try.func16, Try.ntmps16
  go_wp2_with (first | (go_at_call 17; (with_reducible refine (tright_c _ _).mono ?_); rintro e w1 ⟨rfl, hb1⟩; obtain ⟨hc1, hf1, hz1⟩ := bcell hb1; have hk1 := bblk hb1; (try simp only [World.size_alloc, World.size_setCell, World.size_drew, setRow_size] at hc1 hf1 hz1 hk1)))
  go_ret
  exact ⟨rfl, (by repeat' (first | (with_reducible exact Below.refl _ _) | (with_reducible assumption) | (with_reducible refine Below.alloc ?_ ?_ _) | (with_reducible refine Below.setCell ?_ ?_ _) | (with_reducible refine below_setRow ?_ ?_) | (with_reducible refine Below.drew ?_) | (with_reducible refine below_dn ?_ _) | (with_reducible refine Below.trans ?_ (Below.mono (by assumption) ?_)) | go_size))⟩

set_option maxHeartbeats 4000000 in
theorem tfull_f (s : St) (o n : Nat) (h2 : n ≤ 512) (h3 : o + n ≤ 512) (hs : s.right = true) (w : World) : Calls Try.prog 16 #[.agg (St.cells s), .int .i64 (o : Int), .int .i64 (n : Int)] w fun e w' => e = .returned (.bool (s.full (o : Int) (n : Int))) ∧ Below w.heap.size w w' := by
  have h3' : (o : Int) ≤ 512 - (n : Int) := by omega
  have h2' : (n : Int) ≤ 512 := by omega
  go_enter Try.func16, Try.ntmps16
  go_wp2_with (first | (go_at_call 17; (with_reducible refine (tright_c _ _).mono ?_); rintro e w1 ⟨rfl, hb1⟩; obtain ⟨hc1, hf1, hz1⟩ := bcell hb1; have hk1 := bblk hb1; (try simp only [World.size_alloc, World.size_setCell, World.size_drew, setRow_size] at hc1 hf1 hz1 hk1)))
  have HB : Below (w.heap.size + 1) (w.alloc (.cells s.cells 38)) w1 := (by repeat' (first | (with_reducible exact Below.refl _ _) | (with_reducible assumption) | (with_reducible refine Below.alloc ?_ ?_ _) | (with_reducible refine Below.setCell ?_ ?_ _) | (with_reducible refine below_setRow ?_ ?_) | (with_reducible refine Below.drew ?_) | (with_reducible refine below_dn ?_ _) | (with_reducible refine Below.trans ?_ (Below.mono (by assumption) ?_)) | go_size))
  clear hb1 hc1 hf1 hz1 hk1
  go_loopw [1, 7] (fun c d wr => ∃ k : Nat, k ≤ n ∧ c = .int .i64 ((o + k : Nat) : Int) ∧ d = .int .i64 ((n - k : Nat) : Int) ∧ Hid (s.upB o k = true) ∧ Below (w.heap.size + 1) (w.alloc (.cells s.cells 38)) wr) (fun _ d _ => (intOf d).toNat)
  case atStart => exact ⟨0, by omega, rfl, rfl, Lib.hid (s.upB_zero o), HB⟩
  case round =>
    clear HB
    obtain ⟨k, hk, rfl, rfl, hup, hB⟩ := hrel
    have hB' : Below (w.alloc (.cells s.cells 38)).heap.size (w.alloc (.cells s.cells 38)) wr := by simpa using hB
    obtain ⟨hcB, hfB, hzB⟩ := bcell hB'
    have hkB := bblk hB'
    (try simp only [World.size_alloc] at hcB hfB hzB hkB)
    clear hB'
    generalize ha : o + k = a
    generalize hl : n - k = l
    have hal : a + l ≤ 512 := by omega
    by_cases hl0 : 0 < l
    · obtain ⟨r, hrr⟩ : ∃ r, r = a % 8 := ⟨_, rfl⟩
      obtain ⟨q, hqq⟩ : ∃ q, q = a / 8 := ⟨_, rfl⟩
      obtain ⟨e, hee⟩ : ∃ e, e = 8 - r := ⟨_, rfl⟩
      have hr : (a : Int) % 8 = (r : Int) := by omega
      have hq : (a : Int) / 8 = (q : Int) := by omega
      have h8 : (8 : Int) - (r : Int) = (e : Int) := by omega
      have hq64 : q < 64 := by omega
      have hr8 : r < 8 := by omega
      obtain ⟨m, hmm⟩ : ∃ m, m = min l e := ⟨_, rfl⟩
      have hmin : min (l : Int) (e : Int) = (m : Int) := by omega
      have hm0 : 0 < m := by omega
      have hml : m ≤ l := by omega
      have ham : a % 8 + m ≤ 8 := by omega
      have hfact := Lib.hid (And.intro (And.intro hrr hqq) (And.intro ham (And.intro ha hl)))
      clear hrr hqq hee ha hl hmm ham
      cases hb : (((s.s q).p &&& St.bits (a : Int) (m : Int)) == St.bits (a : Int) (m : Int))
      · go_wp2_with (first | (go_at_call 32; (with_reducible refine (tbits_q _ _ (by omega) (by omega) (by omega) _).mono ?_); rintro e w1 ⟨rfl, rfl⟩))
        obtain ⟨⟨_, rfl⟩, ham, rfl, rfl⟩ := hfact.out
        obtain ⟨i, hi, h9⟩ := St.run_not ham hb
        have h10 : s.full (o : Int) (n : Int) = false := St.full_no (k := k + i) (by omega) (by rw [← Nat.add_assoc]; exact h9)
        go_ret
        exact ⟨Eq.trans (b := Ending.returned (.bool false)) rfl (by rw [h10]), (by repeat' (first | (with_reducible exact Below.refl _ _) | (with_reducible assumption) | (with_reducible refine Below.alloc ?_ ?_ _) | (with_reducible refine Below.setCell ?_ ?_ _) | (with_reducible refine below_setRow ?_ ?_) | (with_reducible refine Below.drew ?_) | (with_reducible refine below_dn ?_ _) | (with_reducible refine Below.trans ?_ (Below.mono (by assumption) ?_)) | go_size))⟩
      · go_wp2_with (first | (go_at_call 32; (with_reducible refine (tbits_q _ _ (by omega) (by omega) (by omega) _).mono ?_); rintro e w1 ⟨rfl, rfl⟩))
        obtain ⟨⟨_, rfl⟩, ham, rfl, rfl⟩ := hfact.out
        go_roundw
        case rel => exact ⟨k + m, by omega, by go_num, by go_num, Lib.hid (St.upB_add hup.out ((St.run_set ham).1 hb)), (by repeat' (first | (with_reducible exact Below.refl _ _) | (with_reducible assumption) | (with_reducible refine Below.alloc ?_ ?_ _) | (with_reducible refine Below.setCell ?_ ?_ _) | (with_reducible refine below_setRow ?_ ?_) | (with_reducible refine Below.drew ?_) | (with_reducible refine below_dn ?_ _) | (with_reducible refine Below.trans ?_ (Below.mono (by assumption) ?_)) | go_size))⟩
        case measure => simp [intOf]; omega
    · obtain rfl : l = 0 := by omega
      have hkn : k = n := by omega
      have h10 : s.full (o : Int) (n : Int) = true := St.full_yes h3 hs (by rw [← hkn]; exact hup.out)
      have h11 := Lib.hid h10
      clear h10 hkn hl
      go_wp2
      go_ret
      exact ⟨Eq.trans (b := Ending.returned (.bool true)) rfl (by rw [h11.out]), (by repeat' (first | (with_reducible exact Below.refl _ _) | (with_reducible assumption) | (with_reducible refine Below.alloc ?_ ?_ _) | (with_reducible refine Below.setCell ?_ ?_ _) | (with_reducible refine below_setRow ?_ ?_) | (with_reducible refine Below.drew ?_) | (with_reducible refine below_dn ?_ _) | (with_reducible refine Below.trans ?_ (Below.mono (by assumption) ?_)) | go_size))⟩

theorem tfull_c (s : St) (o n : Int) (w : World) : Calls Try.prog 16 #[.agg (St.cells s), .int .i64 o, .int .i64 n] w fun e w' => e = .returned (.bool (s.full o n)) ∧ Below w.heap.size w w' := by
  by_cases h : o < 0
  · exact tfull_a s o n h w
  have h0 : 0 ≤ o := by omega
  by_cases h : n < 0
  · exact tfull_b s o n h0 h w
  have h1 : 0 ≤ n := by omega
  by_cases h : 512 < n
  · exact tfull_c0 s o n h0 h1 h w
  have h2 : n ≤ 512 := by omega
  by_cases h : 512 - n < o
  · exact tfull_d s o n h0 h1 h2 h w
  have h3 : o ≤ 512 - n := by omega
  cases hs : s.right
  · exact tfull_e s o n h0 h1 h2 h3 hs w
  obtain ⟨a, rfl⟩ := Int.eq_ofNat_of_zero_le h0
  obtain ⟨m, rfl⟩ := Int.eq_ofNat_of_zero_le h1
  exact tfull_f s a m (by omega) (by omega) hs w

end Hk
