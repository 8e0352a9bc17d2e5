/- The reference of states: First, Right, number, fits; old memory is as it was. No condition but those in each statement. -/
import Derived.Test.YtjeanjbjngbfcaaProg
import Derived.Test.YtjeanjbjngbfcaaGp
import Derived.Test.YtjeanjbjngbfcaaSt1
import Derived.Test.YtjeanjbjngbfcaaSt2
import Derived.Test.YtjeanjbjngbfcaaSt3
import Derived.Test.YtjeanjbjngbfcaaSt4
import Derived.Test.YtjeanjbjngbfcaaVl10
namespace Hk
open Go Go.RowKit Go.Proofs
set_option linter.unusedSimpArgs false
set_option linter.unusedVariables false
set_option maxRecDepth 100000
attribute [go_sem] Tn.eta Sp.eta Fa.eta Vl.eta
set_option maxHeartbeats 1000000 in
theorem rtfirst_c  (w : World) : Calls Try.prog 19 #[] w fun e w' => e = .returned (.agg (St.cells St.first)) ∧ Below w.heap.size w w' := by
  go_enter Try.func19, Try.ntmps19
  go_wp2
  refine bodyPost_ret (v := .agg (St.cells St.first)) ?_ rfl ⟨rfl, (by repeat' (first | (with_reducible exact Below.refl _ _) | (with_reducible assumption) | (with_reducible refine Below.alloc ?_ ?_ _) | (with_reducible refine Below.setCell ?_ ?_ _) | (with_reducible refine below_setRow ?_ ?_) | (with_reducible refine Below.drew ?_) | (with_reducible refine below_dn ?_ _) | (with_reducible refine Below.trans ?_ (Below.mono (by assumption) ?_)) | go_size))⟩
  exact results_st (fn := Try.f19) rfl _ _ _ _ rfl (by simp [*, go_sem, ↓IntWalk.iteOmega]) (by simp [*, go_sem, ↓IntWalk.iteOmega])

set_option maxHeartbeats 4000000 in
theorem rtright_c (s : St) (w : World) : Calls Try.prog 24 #[.agg (St.cells s)] w fun e w' => e = .returned (.bool (s.right)) ∧ Below w.heap.size w w' := by
  go_enter Try.func24, Try.ntmps24
  go_wp2
  go_loopw [3] (fun c wr => ∃ k : Nat, k ≤ 11 ∧ c = .int .i64 (k : Int) ∧ Hid (s.upR k = true) ∧ Below (w.heap.size + 1) (w.alloc (.cells s.cells 38)) wr) (fun c _ => 11 - (intOf c).toNat)
  case atStart => exact ⟨0, by omega, rfl, Lib.hid (s.upR_zero), (by repeat' (first | (with_reducible exact Below.refl _ _) | (with_reducible assumption) | (with_reducible refine Below.alloc ?_ ?_ _) | (with_reducible refine Below.setCell ?_ ?_ _) | (with_reducible refine below_setRow ?_ ?_) | (with_reducible refine Below.drew ?_) | (with_reducible refine below_dn ?_ _) | (with_reducible refine Below.trans ?_ (Below.mono (by assumption) ?_)) | go_size))⟩
  case round =>
    obtain ⟨k, hk, rfl, hup, hB⟩ := hrel
    have hB' : Below (w.alloc (.cells s.cells 38)).heap.size (w.alloc (.cells s.cells 38)) wr := by simpa using hB
    obtain ⟨hcB, hfB, hzB⟩ := bcell hB'
    have hkB := bblk hB'
    (try simp only [World.size_alloc] at hcB hfB hzB hkB)
    clear hB'
    by_cases hlt : k < 11
    · cases hq : Vl.right (s.r k)
      · go_wp2_with (first | (go_at_call 13; (with_reducible refine (rvright_c' _ _ _ _ _ _ _ _).mono ?_); rintro e w1 ⟨rfl, hb1⟩; obtain ⟨hc1, hf1, hz1⟩ := bcell hb1; have hk1 := bblk hb1; (try simp only [World.size_alloc, World.size_setCell, World.size_drew] at hc1 hf1 hz1 hk1)))
        go_ret
        exact ⟨Eq.trans (b := Ending.returned (.bool false)) rfl (by rw [St.right_noR hlt hq]), (by repeat' (first | (with_reducible exact Below.refl _ _) | (with_reducible assumption) | (with_reducible refine Below.alloc ?_ ?_ _) | (with_reducible refine Below.setCell ?_ ?_ _) | (with_reducible refine below_setRow ?_ ?_) | (with_reducible refine Below.drew ?_) | (with_reducible refine below_dn ?_ _) | (with_reducible refine Below.trans ?_ (Below.mono (by assumption) ?_)) | go_size))⟩
      · go_wp2_with (first | (go_at_call 13; (with_reducible refine (rvright_c' _ _ _ _ _ _ _ _).mono ?_); rintro e w1 ⟨rfl, hb1⟩; obtain ⟨hc1, hf1, hz1⟩ := bcell hb1; have hk1 := bblk hb1; (try simp only [World.size_alloc, World.size_setCell, World.size_drew] at hc1 hf1 hz1 hk1)))
        go_roundw
        case rel => exact ⟨k + 1, by omega, by go_num, Lib.hid (St.upR_succ hup.out hq), (by repeat' (first | (with_reducible exact Below.refl _ _) | (with_reducible assumption) | (with_reducible refine Below.alloc ?_ ?_ _) | (with_reducible refine Below.setCell ?_ ?_ _) | (with_reducible refine below_setRow ?_ ?_) | (with_reducible refine Below.drew ?_) | (with_reducible refine below_dn ?_ _) | (with_reducible refine Below.trans ?_ (Below.mono (by assumption) ?_)) | go_size))⟩
        case measure => simp [intOf]; omega
    · obtain rfl : k = 11 := by omega
      have h11 := hup.out
      have h11' := Lib.hid h11
      clear h11 hup
      rw [show ((11 : Nat) : Int) = 11 from rfl]
      go_wp2
      clear hcB hfB hzB hkB
      go_loopw [4] (fun c wr => ∃ k : Nat, k ≤ 64 ∧ c = .int .i64 (k : Int) ∧ Hid (s.upS k = true) ∧ Below (w.heap.size + 1) (w.alloc (.cells s.cells 38)) wr) (fun c _ => 64 - (intOf c).toNat)
      case atStart => exact ⟨0, by omega, rfl, Lib.hid (s.upS_zero), (by repeat' (first | (with_reducible exact Below.refl _ _) | (with_reducible assumption) | (with_reducible refine Below.alloc ?_ ?_ _) | (with_reducible refine Below.setCell ?_ ?_ _) | (with_reducible refine below_setRow ?_ ?_) | (with_reducible refine Below.drew ?_) | (with_reducible refine below_dn ?_ _) | (with_reducible refine Below.trans ?_ (Below.mono (by assumption) ?_)) | go_size))⟩
      case round =>
        clear hB
        obtain ⟨k, hk, rfl, hup, hB⟩ := hrel
        have hB' : Below (w.alloc (.cells s.cells 38)).heap.size (w.alloc (.cells s.cells 38)) wr := by simpa using hB
        obtain ⟨hcB, hfB, hzB⟩ := bcell hB'
        have hkB := bblk hB'
        (try simp only [World.size_alloc] at hcB hfB hzB hkB)
        clear hB'
        by_cases hlt2 : k < 64
        · by_cases hk0' : (s.s k).v.k = 0
          · have hk0 := Lib.hid hk0'
            have hk1b : ((s.s k).v.k == 0) = true := by simp [hk0']
            have hk2b : ((s.s k).v.k != 0) = false := by simp [hk0']
            clear hk0'
            cases hq : Vl.right (s.s k).v
            · go_wp2_with (first | (go_at_call 13; (with_reducible refine (rvright_c' _ _ _ _ _ _ _ _).mono ?_); rintro e w1 ⟨rfl, hb1⟩; obtain ⟨hc1, hf1, hz1⟩ := bcell hb1; have hk1 := bblk hb1; (try simp only [World.size_alloc, World.size_setCell, World.size_drew] at hc1 hf1 hz1 hk1)))
              go_ret
              exact ⟨Eq.trans (b := Ending.returned (.bool false)) rfl (by rw [St.right_noS hlt2 (by unfold Sl.ok; rw [hq]; rfl)]), (by repeat' (first | (with_reducible exact Below.refl _ _) | (with_reducible assumption) | (with_reducible refine Below.alloc ?_ ?_ _) | (with_reducible refine Below.setCell ?_ ?_ _) | (with_reducible refine below_setRow ?_ ?_) | (with_reducible refine Below.drew ?_) | (with_reducible refine below_dn ?_ _) | (with_reducible refine Below.trans ?_ (Below.mono (by assumption) ?_)) | go_size))⟩
            · go_wp2_with (first | (go_at_call 13; (with_reducible refine (rvright_c' _ _ _ _ _ _ _ _).mono ?_); rintro e w1 ⟨rfl, hb1⟩; obtain ⟨hc1, hf1, hz1⟩ := bcell hb1; have hk1 := bblk hb1; (try simp only [World.size_alloc, World.size_setCell, World.size_drew] at hc1 hf1 hz1 hk1)))
              go_roundw
              case rel => exact ⟨k + 1, by omega, by go_num, Lib.hid (St.upS_succ hup.out (by unfold Sl.ok; rw [hq]; simp [hk0.out])), (by repeat' (first | (with_reducible exact Below.refl _ _) | (with_reducible assumption) | (with_reducible refine Below.alloc ?_ ?_ _) | (with_reducible refine Below.setCell ?_ ?_ _) | (with_reducible refine below_setRow ?_ ?_) | (with_reducible refine Below.drew ?_) | (with_reducible refine below_dn ?_ _) | (with_reducible refine Below.trans ?_ (Below.mono (by assumption) ?_)) | go_size))⟩
              case measure => simp [intOf]; omega
          · have hk0 := Lib.hid hk0'
            have hk1b : ((s.s k).v.k == 0) = false := by simp [hk0']
            have hk2b : ((s.s k).v.k != 0) = true := by simp [hk0']
            clear hk0'
            cases hp : ((s.s k).p == 255#8)
            · go_wp2_with (first | (go_at_call 13; (with_reducible refine (rvright_c' _ _ _ _ _ _ _ _).mono ?_); rintro e w1 ⟨rfl, hb1⟩; obtain ⟨hc1, hf1, hz1⟩ := bcell hb1; have hk1 := bblk hb1; (try simp only [World.size_alloc, World.size_setCell, World.size_drew] at hc1 hf1 hz1 hk1)))
              all_goals (go_ret; exact ⟨Eq.trans (b := Ending.returned (.bool false)) rfl (by rw [St.right_noS hlt2 (by unfold Sl.ok; rw [hp]; simp [hk0.out])]), (by repeat' (first | (with_reducible exact Below.refl _ _) | (with_reducible assumption) | (with_reducible refine Below.alloc ?_ ?_ _) | (with_reducible refine Below.setCell ?_ ?_ _) | (with_reducible refine below_setRow ?_ ?_) | (with_reducible refine Below.drew ?_) | (with_reducible refine below_dn ?_ _) | (with_reducible refine Below.trans ?_ (Below.mono (by assumption) ?_)) | go_size))⟩)
            · cases hq : Vl.right (s.s k).v
              · go_wp2_with (first | (go_at_call 13; (with_reducible refine (rvright_c' _ _ _ _ _ _ _ _).mono ?_); rintro e w1 ⟨rfl, hb1⟩; obtain ⟨hc1, hf1, hz1⟩ := bcell hb1; have hk1 := bblk hb1; (try simp only [World.size_alloc, World.size_setCell, World.size_drew] at hc1 hf1 hz1 hk1)))
                go_ret
                exact ⟨Eq.trans (b := Ending.returned (.bool false)) rfl (by rw [St.right_noS hlt2 (by unfold Sl.ok; rw [hq]; rfl)]), (by repeat' (first | (with_reducible exact Below.refl _ _) | (with_reducible assumption) | (with_reducible refine Below.alloc ?_ ?_ _) | (with_reducible refine Below.setCell ?_ ?_ _) | (with_reducible refine below_setRow ?_ ?_) | (with_reducible refine Below.drew ?_) | (with_reducible refine below_dn ?_ _) | (with_reducible refine Below.trans ?_ (Below.mono (by assumption) ?_)) | go_size))⟩
              · go_wp2_with (first | (go_at_call 13; (with_reducible refine (rvright_c' _ _ _ _ _ _ _ _).mono ?_); rintro e w1 ⟨rfl, hb1⟩; obtain ⟨hc1, hf1, hz1⟩ := bcell hb1; have hk1 := bblk hb1; (try simp only [World.size_alloc, World.size_setCell, World.size_drew] at hc1 hf1 hz1 hk1)))
                go_roundw
                case rel => exact ⟨k + 1, by omega, by go_num, Lib.hid (St.upS_succ hup.out (by unfold Sl.ok; rw [hq, hp]; simp)), (by repeat' (first | (with_reducible exact Below.refl _ _) | (with_reducible assumption) | (with_reducible refine Below.alloc ?_ ?_ _) | (with_reducible refine Below.setCell ?_ ?_ _) | (with_reducible refine below_setRow ?_ ?_) | (with_reducible refine Below.drew ?_) | (with_reducible refine below_dn ?_ _) | (with_reducible refine Below.trans ?_ (Below.mono (by assumption) ?_)) | go_size))⟩
                case measure => simp [intOf]; omega
        · obtain rfl : k = 64 := by omega
          have h64 := Lib.hid hup.out
          clear hup
          go_wp2
          go_ret
          exact ⟨Eq.trans (b := Ending.returned (.bool true)) rfl (by rw [St.right_yes h11'.out h64.out]), (by repeat' (first | (with_reducible exact Below.refl _ _) | (with_reducible assumption) | (with_reducible refine Below.alloc ?_ ?_ _) | (with_reducible refine Below.setCell ?_ ?_ _) | (with_reducible refine below_setRow ?_ ?_) | (with_reducible refine Below.drew ?_) | (with_reducible refine below_dn ?_ _) | (with_reducible refine Below.trans ?_ (Below.mono (by assumption) ?_)) | go_size))⟩

theorem rtsized_c (n : Int) (w : World) : Calls Try.prog 35 #[.int .i64 n] w fun e w' => e = .returned (.bool (St.sized n)) ∧ Below w.heap.size w w' := by
  by_cases e1 : n = 1
  · subst e1
    go_enter Try.func35, Try.ntmps35
    go_wp2
    go_ret
    exact ⟨rfl, (by repeat' (first | (with_reducible exact Below.refl _ _) | (with_reducible assumption) | (with_reducible refine Below.alloc ?_ ?_ _) | (with_reducible refine Below.setCell ?_ ?_ _) | (with_reducible refine below_setRow ?_ ?_) | (with_reducible refine Below.drew ?_) | (with_reducible refine below_dn ?_ _) | (with_reducible refine Below.trans ?_ (Below.mono (by assumption) ?_)) | go_size))⟩
  by_cases e2 : n = 2
  · subst e2
    go_enter Try.func35, Try.ntmps35
    go_wp2
    go_ret
    exact ⟨rfl, (by repeat' (first | (with_reducible exact Below.refl _ _) | (with_reducible assumption) | (with_reducible refine Below.alloc ?_ ?_ _) | (with_reducible refine Below.setCell ?_ ?_ _) | (with_reducible refine below_setRow ?_ ?_) | (with_reducible refine Below.drew ?_) | (with_reducible refine below_dn ?_ _) | (with_reducible refine Below.trans ?_ (Below.mono (by assumption) ?_)) | go_size))⟩
  by_cases e4 : n = 4
  · subst e4
    go_enter Try.func35, Try.ntmps35
    go_wp2
    go_ret
    exact ⟨rfl, (by repeat' (first | (with_reducible exact Below.refl _ _) | (with_reducible assumption) | (with_reducible refine Below.alloc ?_ ?_ _) | (with_reducible refine Below.setCell ?_ ?_ _) | (with_reducible refine below_setRow ?_ ?_) | (with_reducible refine Below.drew ?_) | (with_reducible refine below_dn ?_ _) | (with_reducible refine Below.trans ?_ (Below.mono (by assumption) ?_)) | go_size))⟩
  by_cases e8 : n = 8
  · subst e8
    go_enter Try.func35, Try.ntmps35
    go_wp2
    go_ret
    exact ⟨rfl, (by repeat' (first | (with_reducible exact Below.refl _ _) | (with_reducible assumption) | (with_reducible refine Below.alloc ?_ ?_ _) | (with_reducible refine Below.setCell ?_ ?_ _) | (with_reducible refine below_setRow ?_ ?_) | (with_reducible refine Below.drew ?_) | (with_reducible refine below_dn ?_ _) | (with_reducible refine Below.trans ?_ (Below.mono (by assumption) ?_)) | go_size))⟩
  go_enter Try.func35, Try.ntmps35
  go_wp2
  go_ret
  exact ⟨by simp [St.sized, *], (by repeat' (first | (with_reducible exact Below.refl _ _) | (with_reducible assumption) | (with_reducible refine Below.alloc ?_ ?_ _) | (with_reducible refine Below.setCell ?_ ?_ _) | (with_reducible refine below_setRow ?_ ?_) | (with_reducible refine Below.drew ?_) | (with_reducible refine below_dn ?_ _) | (with_reducible refine Below.trans ?_ (Below.mono (by assumption) ?_)) | go_size))⟩

theorem rtfits_1a (o : Int) (h : o < 0) (w : World) : Calls Try.prog 36 #[.int .i64 o, .int .i64 1] w fun e w' => e = .returned (.int .i64 80) ∧ Below w.heap.size w w' := by
  go_enter Try.func36, Try.ntmps36
  go_wp2
  all_goals (go_ret; exact ⟨rfl, (by repeat' (first | (with_reducible exact Below.refl _ _) | (with_reducible assumption) | (with_reducible refine Below.alloc ?_ ?_ _) | (with_reducible refine Below.setCell ?_ ?_ _) | (with_reducible refine below_setRow ?_ ?_) | (with_reducible refine Below.drew ?_) | (with_reducible refine below_dn ?_ _) | (with_reducible refine Below.trans ?_ (Below.mono (by assumption) ?_)) | go_size))⟩)

theorem rtfits_1b (o : Int) (h0 : 0 ≤ o) (h1 : 512 - 1 < o) (w : World) : Calls Try.prog 36 #[.int .i64 o, .int .i64 1] w fun e w' => e = .returned (.int .i64 80) ∧ Below w.heap.size w w' := by
  simp only [Int.reduceSub] at h1
  go_enter Try.func36, Try.ntmps36
  go_wp2
  all_goals (go_ret; exact ⟨rfl, (by repeat' (first | (with_reducible exact Below.refl _ _) | (with_reducible assumption) | (with_reducible refine Below.alloc ?_ ?_ _) | (with_reducible refine Below.setCell ?_ ?_ _) | (with_reducible refine below_setRow ?_ ?_) | (with_reducible refine Below.drew ?_) | (with_reducible refine below_dn ?_ _) | (with_reducible refine Below.trans ?_ (Below.mono (by assumption) ?_)) | go_size))⟩)

theorem rtfits_1c (o : Int) (h0 : 0 ≤ o) (h1 : o ≤ 512 - 1) (h2 : o % 1 = 0) (w : World) : Calls Try.prog 36 #[.int .i64 o, .int .i64 1] w fun e w' => e = .returned (.int .i64 0) ∧ Below w.heap.size w w' := by
  simp only [Int.reduceSub] at h1
  have h3 := Int.emod_one o
  go_enter Try.func36, Try.ntmps36
  go_wp2
  all_goals (go_ret; exact ⟨rfl, (by repeat' (first | (with_reducible exact Below.refl _ _) | (with_reducible assumption) | (with_reducible refine Below.alloc ?_ ?_ _) | (with_reducible refine Below.setCell ?_ ?_ _) | (with_reducible refine below_setRow ?_ ?_) | (with_reducible refine Below.drew ?_) | (with_reducible refine below_dn ?_ _) | (with_reducible refine Below.trans ?_ (Below.mono (by assumption) ?_)) | go_size))⟩)

theorem rtfits_1 (o : Int) (w : World) : Calls Try.prog 36 #[.int .i64 o, .int .i64 1] w fun e w' => e = .returned (.int .i64 (St.fitsE o 1)) ∧ Below w.heap.size w w' := by
  by_cases h : o < 0
  · have e : St.fitsE o 1 = 80 := by unfold St.fitsE; rw [if_pos (.inl h)]
    rw [e]; exact rtfits_1a o h w
  have h0 : 0 ≤ o := by omega
  by_cases h1 : 512 - 1 < o
  · have e : St.fitsE o 1 = 80 := by unfold St.fitsE; rw [if_pos (.inr h1)]
    rw [e]; exact rtfits_1b o h0 h1 w
  have h1 : o ≤ 512 - 1 := by omega
  by_cases h2 : o % 1 = 0
  · have e : St.fitsE o 1 = 0 := by unfold St.fitsE; rw [if_neg (by omega), if_pos h2]
    rw [e]; exact rtfits_1c o h0 h1 h2 w
  · exact absurd (by omega) h2

theorem rtfits_2a (o : Int) (h : o < 0) (w : World) : Calls Try.prog 36 #[.int .i64 o, .int .i64 2] w fun e w' => e = .returned (.int .i64 80) ∧ Below w.heap.size w w' := by
  go_enter Try.func36, Try.ntmps36
  go_wp2
  all_goals (go_ret; exact ⟨rfl, (by repeat' (first | (with_reducible exact Below.refl _ _) | (with_reducible assumption) | (with_reducible refine Below.alloc ?_ ?_ _) | (with_reducible refine Below.setCell ?_ ?_ _) | (with_reducible refine below_setRow ?_ ?_) | (with_reducible refine Below.drew ?_) | (with_reducible refine below_dn ?_ _) | (with_reducible refine Below.trans ?_ (Below.mono (by assumption) ?_)) | go_size))⟩)

theorem rtfits_2b (o : Int) (h0 : 0 ≤ o) (h1 : 512 - 2 < o) (w : World) : Calls Try.prog 36 #[.int .i64 o, .int .i64 2] w fun e w' => e = .returned (.int .i64 80) ∧ Below w.heap.size w w' := by
  simp only [Int.reduceSub] at h1
  go_enter Try.func36, Try.ntmps36
  go_wp2
  all_goals (go_ret; exact ⟨rfl, (by repeat' (first | (with_reducible exact Below.refl _ _) | (with_reducible assumption) | (with_reducible refine Below.alloc ?_ ?_ _) | (with_reducible refine Below.setCell ?_ ?_ _) | (with_reducible refine below_setRow ?_ ?_) | (with_reducible refine Below.drew ?_) | (with_reducible refine below_dn ?_ _) | (with_reducible refine Below.trans ?_ (Below.mono (by assumption) ?_)) | go_size))⟩)

theorem rtfits_2c (o : Int) (h0 : 0 ≤ o) (h1 : o ≤ 512 - 2) (h2 : o % 2 = 0) (w : World) : Calls Try.prog 36 #[.int .i64 o, .int .i64 2] w fun e w' => e = .returned (.int .i64 0) ∧ Below w.heap.size w w' := by
  simp only [Int.reduceSub] at h1
  go_enter Try.func36, Try.ntmps36
  go_wp2
  all_goals (go_ret; exact ⟨rfl, (by repeat' (first | (with_reducible exact Below.refl _ _) | (with_reducible assumption) | (with_reducible refine Below.alloc ?_ ?_ _) | (with_reducible refine Below.setCell ?_ ?_ _) | (with_reducible refine below_setRow ?_ ?_) | (with_reducible refine Below.drew ?_) | (with_reducible refine below_dn ?_ _) | (with_reducible refine Below.trans ?_ (Below.mono (by assumption) ?_)) | go_size))⟩)

theorem rtfits_2d (o : Int) (h0 : 0 ≤ o) (h1 : o ≤ 512 - 2) (h2 : ¬ o % 2 = 0) (w : World) : Calls Try.prog 36 #[.int .i64 o, .int .i64 2] w fun e w' => e = .returned (.int .i64 130) ∧ Below w.heap.size w w' := by
  simp only [Int.reduceSub] at h1
  go_enter Try.func36, Try.ntmps36
  go_wp2
  all_goals (go_ret; exact ⟨rfl, (by repeat' (first | (with_reducible exact Below.refl _ _) | (with_reducible assumption) | (with_reducible refine Below.alloc ?_ ?_ _) | (with_reducible refine Below.setCell ?_ ?_ _) | (with_reducible refine below_setRow ?_ ?_) | (with_reducible refine Below.drew ?_) | (with_reducible refine below_dn ?_ _) | (with_reducible refine Below.trans ?_ (Below.mono (by assumption) ?_)) | go_size))⟩)

theorem rtfits_2 (o : Int) (w : World) : Calls Try.prog 36 #[.int .i64 o, .int .i64 2] w fun e w' => e = .returned (.int .i64 (St.fitsE o 2)) ∧ Below w.heap.size w w' := by
  by_cases h : o < 0
  · have e : St.fitsE o 2 = 80 := by unfold St.fitsE; rw [if_pos (.inl h)]
    rw [e]; exact rtfits_2a o h w
  have h0 : 0 ≤ o := by omega
  by_cases h1 : 512 - 2 < o
  · have e : St.fitsE o 2 = 80 := by unfold St.fitsE; rw [if_pos (.inr h1)]
    rw [e]; exact rtfits_2b o h0 h1 w
  have h1 : o ≤ 512 - 2 := by omega
  by_cases h2 : o % 2 = 0
  · have e : St.fitsE o 2 = 0 := by unfold St.fitsE; rw [if_neg (by omega), if_pos h2]
    rw [e]; exact rtfits_2c o h0 h1 h2 w
  · have e : St.fitsE o 2 = 130 := by unfold St.fitsE; rw [if_neg (by omega), if_neg h2]
    rw [e]; exact rtfits_2d o h0 h1 h2 w

theorem rtfits_4a (o : Int) (h : o < 0) (w : World) : Calls Try.prog 36 #[.int .i64 o, .int .i64 4] w fun e w' => e = .returned (.int .i64 80) ∧ Below w.heap.size w w' := by
  go_enter Try.func36, Try.ntmps36
  go_wp2
  all_goals (go_ret; exact ⟨rfl, (by repeat' (first | (with_reducible exact Below.refl _ _) | (with_reducible assumption) | (with_reducible refine Below.alloc ?_ ?_ _) | (with_reducible refine Below.setCell ?_ ?_ _) | (with_reducible refine below_setRow ?_ ?_) | (with_reducible refine Below.drew ?_) | (with_reducible refine below_dn ?_ _) | (with_reducible refine Below.trans ?_ (Below.mono (by assumption) ?_)) | go_size))⟩)

theorem rtfits_4b (o : Int) (h0 : 0 ≤ o) (h1 : 512 - 4 < o) (w : World) : Calls Try.prog 36 #[.int .i64 o, .int .i64 4] w fun e w' => e = .returned (.int .i64 80) ∧ Below w.heap.size w w' := by
  simp only [Int.reduceSub] at h1
  go_enter Try.func36, Try.ntmps36
  go_wp2
  all_goals (go_ret; exact ⟨rfl, (by repeat' (first | (with_reducible exact Below.refl _ _) | (with_reducible assumption) | (with_reducible refine Below.alloc ?_ ?_ _) | (with_reducible refine Below.setCell ?_ ?_ _) | (with_reducible refine below_setRow ?_ ?_) | (with_reducible refine Below.drew ?_) | (with_reducible refine below_dn ?_ _) | (with_reducible refine Below.trans ?_ (Below.mono (by assumption) ?_)) | go_size))⟩)

theorem rtfits_4c (o : Int) (h0 : 0 ≤ o) (h1 : o ≤ 512 - 4) (h2 : o % 4 = 0) (w : World) : Calls Try.prog 36 #[.int .i64 o, .int .i64 4] w fun e w' => e = .returned (.int .i64 0) ∧ Below w.heap.size w w' := by
  simp only [Int.reduceSub] at h1
  go_enter Try.func36, Try.ntmps36
  go_wp2
  all_goals (go_ret; exact ⟨rfl, (by repeat' (first | (with_reducible exact Below.refl _ _) | (with_reducible assumption) | (with_reducible refine Below.alloc ?_ ?_ _) | (with_reducible refine Below.setCell ?_ ?_ _) | (with_reducible refine below_setRow ?_ ?_) | (with_reducible refine Below.drew ?_) | (with_reducible refine below_dn ?_ _) | (with_reducible refine Below.trans ?_ (Below.mono (by assumption) ?_)) | go_size))⟩)

theorem rtfits_4d (o : Int) (h0 : 0 ≤ o) (h1 : o ≤ 512 - 4) (h2 : ¬ o % 4 = 0) (w : World) : Calls Try.prog 36 #[.int .i64 o, .int .i64 4] w fun e w' => e = .returned (.int .i64 130) ∧ Below w.heap.size w w' := by
  simp only [Int.reduceSub] at h1
  go_enter Try.func36, Try.ntmps36
  go_wp2
  all_goals (go_ret; exact ⟨rfl, (by repeat' (first | (with_reducible exact Below.refl _ _) | (with_reducible assumption) | (with_reducible refine Below.alloc ?_ ?_ _) | (with_reducible refine Below.setCell ?_ ?_ _) | (with_reducible refine below_setRow ?_ ?_) | (with_reducible refine Below.drew ?_) | (with_reducible refine below_dn ?_ _) | (with_reducible refine Below.trans ?_ (Below.mono (by assumption) ?_)) | go_size))⟩)

theorem rtfits_4 (o : Int) (w : World) : Calls Try.prog 36 #[.int .i64 o, .int .i64 4] w fun e w' => e = .returned (.int .i64 (St.fitsE o 4)) ∧ Below w.heap.size w w' := by
  by_cases h : o < 0
  · have e : St.fitsE o 4 = 80 := by unfold St.fitsE; rw [if_pos (.inl h)]
    rw [e]; exact rtfits_4a o h w
  have h0 : 0 ≤ o := by omega
  by_cases h1 : 512 - 4 < o
  · have e : St.fitsE o 4 = 80 := by unfold St.fitsE; rw [if_pos (.inr h1)]
    rw [e]; exact rtfits_4b o h0 h1 w
  have h1 : o ≤ 512 - 4 := by omega
  by_cases h2 : o % 4 = 0
  · have e : St.fitsE o 4 = 0 := by unfold St.fitsE; rw [if_neg (by omega), if_pos h2]
    rw [e]; exact rtfits_4c o h0 h1 h2 w
  · have e : St.fitsE o 4 = 130 := by unfold St.fitsE; rw [if_neg (by omega), if_neg h2]
    rw [e]; exact rtfits_4d o h0 h1 h2 w

theorem rtfits_8a (o : Int) (h : o < 0) (w : World) : Calls Try.prog 36 #[.int .i64 o, .int .i64 8] w fun e w' => e = .returned (.int .i64 80) ∧ Below w.heap.size w w' := by
  go_enter Try.func36, Try.ntmps36
  go_wp2
  all_goals (go_ret; exact ⟨rfl, (by repeat' (first | (with_reducible exact Below.refl _ _) | (with_reducible assumption) | (with_reducible refine Below.alloc ?_ ?_ _) | (with_reducible refine Below.setCell ?_ ?_ _) | (with_reducible refine below_setRow ?_ ?_) | (with_reducible refine Below.drew ?_) | (with_reducible refine below_dn ?_ _) | (with_reducible refine Below.trans ?_ (Below.mono (by assumption) ?_)) | go_size))⟩)

theorem rtfits_8b (o : Int) (h0 : 0 ≤ o) (h1 : 512 - 8 < o) (w : World) : Calls Try.prog 36 #[.int .i64 o, .int .i64 8] w fun e w' => e = .returned (.int .i64 80) ∧ Below w.heap.size w w' := by
  simp only [Int.reduceSub] at h1
  go_enter Try.func36, Try.ntmps36
  go_wp2
  all_goals (go_ret; exact ⟨rfl, (by repeat' (first | (with_reducible exact Below.refl _ _) | (with_reducible assumption) | (with_reducible refine Below.alloc ?_ ?_ _) | (with_reducible refine Below.setCell ?_ ?_ _) | (with_reducible refine below_setRow ?_ ?_) | (with_reducible refine Below.drew ?_) | (with_reducible refine below_dn ?_ _) | (with_reducible refine Below.trans ?_ (Below.mono (by assumption) ?_)) | go_size))⟩)

theorem rtfits_8c (o : Int) (h0 : 0 ≤ o) (h1 : o ≤ 512 - 8) (h2 : o % 8 = 0) (w : World) : Calls Try.prog 36 #[.int .i64 o, .int .i64 8] w fun e w' => e = .returned (.int .i64 0) ∧ Below w.heap.size w w' := by
  simp only [Int.reduceSub] at h1
  go_enter Try.func36, Try.ntmps36
  go_wp2
  all_goals (go_ret; exact ⟨rfl, (by repeat' (first | (with_reducible exact Below.refl _ _) | (with_reducible assumption) | (with_reducible refine Below.alloc ?_ ?_ _) | (with_reducible refine Below.setCell ?_ ?_ _) | (with_reducible refine below_setRow ?_ ?_) | (with_reducible refine Below.drew ?_) | (with_reducible refine below_dn ?_ _) | (with_reducible refine Below.trans ?_ (Below.mono (by assumption) ?_)) | go_size))⟩)

theorem rtfits_8d (o : Int) (h0 : 0 ≤ o) (h1 : o ≤ 512 - 8) (h2 : ¬ o % 8 = 0) (w : World) : Calls Try.prog 36 #[.int .i64 o, .int .i64 8] w fun e w' => e = .returned (.int .i64 130) ∧ Below w.heap.size w w' := by
  simp only [Int.reduceSub] at h1
  go_enter Try.func36, Try.ntmps36
  go_wp2
  all_goals (go_ret; exact ⟨rfl, (by repeat' (first | (with_reducible exact Below.refl _ _) | (with_reducible assumption) | (with_reducible refine Below.alloc ?_ ?_ _) | (with_reducible refine Below.setCell ?_ ?_ _) | (with_reducible refine below_setRow ?_ ?_) | (with_reducible refine Below.drew ?_) | (with_reducible refine below_dn ?_ _) | (with_reducible refine Below.trans ?_ (Below.mono (by assumption) ?_)) | go_size))⟩)

theorem rtfits_8 (o : Int) (w : World) : Calls Try.prog 36 #[.int .i64 o, .int .i64 8] w fun e w' => e = .returned (.int .i64 (St.fitsE o 8)) ∧ Below w.heap.size w w' := by
  by_cases h : o < 0
  · have e : St.fitsE o 8 = 80 := by unfold St.fitsE; rw [if_pos (.inl h)]
    rw [e]; exact rtfits_8a o h w
  have h0 : 0 ≤ o := by omega
  by_cases h1 : 512 - 8 < o
  · have e : St.fitsE o 8 = 80 := by unfold St.fitsE; rw [if_pos (.inr h1)]
    rw [e]; exact rtfits_8b o h0 h1 w
  have h1 : o ≤ 512 - 8 := by omega
  by_cases h2 : o % 8 = 0
  · have e : St.fitsE o 8 = 0 := by unfold St.fitsE; rw [if_neg (by omega), if_pos h2]
    rw [e]; exact rtfits_8c o h0 h1 h2 w
  · have e : St.fitsE o 8 = 130 := by unfold St.fitsE; rw [if_neg (by omega), if_neg h2]
    rw [e]; exact rtfits_8d o h0 h1 h2 w

end Hk
