/- Package state: Right; old memory is as it was. No condition but those in each statement. -/
import Derived.Test.YtjeanjbjngbfcaaProg
import Derived.Test.YtjeanjbjngbfcaaGp
import Derived.Test.YtjeanjbjngbfcaaSt1
import Derived.Test.YtjeanjbjngbfcaaSt2
namespace Hk
open Go Go.RowKit Go.Proofs
set_option linter.unusedSimpArgs false
set_option linter.unusedVariables false
set_option maxRecDepth 100000
attribute [go_sem] Tn.eta Sp.eta Fa.eta Vl.eta
set_option maxHeartbeats 4000000 in
theorem tright_c (s : St) (w : World) : Calls Try.prog 17 #[.agg (St.cells s)] w fun e w' => e = .returned (.bool (s.right)) ∧ Below w.heap.size w w' := by
  go_enter Try.func17, Try.ntmps17
  go_wp2
  go_loopw [9] (fun c wr => ∃ k : Nat, k ≤ 11 ∧ c = .int .i64 (k : Int) ∧ Hid (s.upR k = true) ∧ Below (w.heap.size + 1) (w.alloc (.cells s.cells 38)) wr) (fun c _ => 11 - (intOf c).toNat)
  case atStart => exact ⟨0, by omega, rfl, Lib.hid (s.upR_zero), (by repeat' (first | (with_reducible exact Below.refl _ _) | (with_reducible assumption) | (with_reducible refine Below.alloc ?_ ?_ _) | (with_reducible refine Below.setCell ?_ ?_ _) | (with_reducible refine below_setRow ?_ ?_) | (with_reducible refine Below.drew ?_) | (with_reducible refine below_dn ?_ _) | (with_reducible refine Below.trans ?_ (Below.mono (by assumption) ?_)) | go_size))⟩
  case round =>
    obtain ⟨k, hk, rfl, hup, hB⟩ := hrel
    have hB' : Below (w.alloc (.cells s.cells 38)).heap.size (w.alloc (.cells s.cells 38)) wr := by simpa using hB
    obtain ⟨hcB, hfB, hzB⟩ := bcell hB'
    have hkB := bblk hB'
    (try simp only [World.size_alloc] at hcB hfB hzB hkB)
    clear hB'
    by_cases hlt : k < 11
    · cases hq : Vl.right (s.r k)
      · go_wp2_with (first | (go_at_call 28; (with_reducible refine (vright_c' _ _ _ _ _ _ _ _).mono ?_); rintro e w1 ⟨rfl, hb1⟩; obtain ⟨hc1, hf1, hz1⟩ := bcell hb1; have hk1 := bblk hb1; (try simp only [World.size_alloc, World.size_setCell, World.size_drew] at hc1 hf1 hz1 hk1)))
        go_ret
        exact ⟨Eq.trans (b := Ending.returned (.bool false)) rfl (by rw [St.right_noR hlt hq]), (by repeat' (first | (with_reducible exact Below.refl _ _) | (with_reducible assumption) | (with_reducible refine Below.alloc ?_ ?_ _) | (with_reducible refine Below.setCell ?_ ?_ _) | (with_reducible refine below_setRow ?_ ?_) | (with_reducible refine Below.drew ?_) | (with_reducible refine below_dn ?_ _) | (with_reducible refine Below.trans ?_ (Below.mono (by assumption) ?_)) | go_size))⟩
      · go_wp2_with (first | (go_at_call 28; (with_reducible refine (vright_c' _ _ _ _ _ _ _ _).mono ?_); rintro e w1 ⟨rfl, hb1⟩; obtain ⟨hc1, hf1, hz1⟩ := bcell hb1; have hk1 := bblk hb1; (try simp only [World.size_alloc, World.size_setCell, World.size_drew] at hc1 hf1 hz1 hk1)))
        go_roundw
        case rel => exact ⟨k + 1, by omega, by go_num, Lib.hid (St.upR_succ hup.out hq), (by repeat' (first | (with_reducible exact Below.refl _ _) | (with_reducible assumption) | (with_reducible refine Below.alloc ?_ ?_ _) | (with_reducible refine Below.setCell ?_ ?_ _) | (with_reducible refine below_setRow ?_ ?_) | (with_reducible refine Below.drew ?_) | (with_reducible refine below_dn ?_ _) | (with_reducible refine Below.trans ?_ (Below.mono (by assumption) ?_)) | go_size))⟩
        case measure => simp [intOf]; omega
    · obtain rfl : k = 11 := by omega
      have h11 := hup.out
      have h11' := Lib.hid h11
      clear h11 hup
      rw [show ((11 : Nat) : Int) = 11 from rfl]
      go_wp2
      clear hcB hfB hzB hkB
      go_loopw [18] (fun c wr => ∃ k : Nat, k ≤ 64 ∧ c = .int .i64 (k : Int) ∧ Hid (s.upS k = true) ∧ Below (w.heap.size + 1) (w.alloc (.cells s.cells 38)) wr) (fun c _ => 64 - (intOf c).toNat)
      case atStart => exact ⟨0, by omega, rfl, Lib.hid (s.upS_zero), (by repeat' (first | (with_reducible exact Below.refl _ _) | (with_reducible assumption) | (with_reducible refine Below.alloc ?_ ?_ _) | (with_reducible refine Below.setCell ?_ ?_ _) | (with_reducible refine below_setRow ?_ ?_) | (with_reducible refine Below.drew ?_) | (with_reducible refine below_dn ?_ _) | (with_reducible refine Below.trans ?_ (Below.mono (by assumption) ?_)) | go_size))⟩
      case round =>
        clear hB
        obtain ⟨k, hk, rfl, hup, hB⟩ := hrel
        have hB' : Below (w.alloc (.cells s.cells 38)).heap.size (w.alloc (.cells s.cells 38)) wr := by simpa using hB
        obtain ⟨hcB, hfB, hzB⟩ := bcell hB'
        have hkB := bblk hB'
        (try simp only [World.size_alloc] at hcB hfB hzB hkB)
        clear hB'
        by_cases hlt2 : k < 64
        · by_cases hk0' : (s.s k).v.k = 0
          · have hk0 := Lib.hid hk0'
            have hk1b : ((s.s k).v.k == 0) = true := by simp [hk0']
            have hk2b : ((s.s k).v.k != 0) = false := by simp [hk0']
            clear hk0'
            cases hq : Vl.right (s.s k).v
            · go_wp2_with (first | (go_at_call 28; (with_reducible refine (vright_c' _ _ _ _ _ _ _ _).mono ?_); rintro e w1 ⟨rfl, hb1⟩; obtain ⟨hc1, hf1, hz1⟩ := bcell hb1; have hk1 := bblk hb1; (try simp only [World.size_alloc, World.size_setCell, World.size_drew] at hc1 hf1 hz1 hk1)))
              go_ret
              exact ⟨Eq.trans (b := Ending.returned (.bool false)) rfl (by rw [St.right_noS hlt2 (by unfold Sl.ok; rw [hq]; rfl)]), (by repeat' (first | (with_reducible exact Below.refl _ _) | (with_reducible assumption) | (with_reducible refine Below.alloc ?_ ?_ _) | (with_reducible refine Below.setCell ?_ ?_ _) | (with_reducible refine below_setRow ?_ ?_) | (with_reducible refine Below.drew ?_) | (with_reducible refine below_dn ?_ _) | (with_reducible refine Below.trans ?_ (Below.mono (by assumption) ?_)) | go_size))⟩
            · go_wp2_with (first | (go_at_call 28; (with_reducible refine (vright_c' _ _ _ _ _ _ _ _).mono ?_); rintro e w1 ⟨rfl, hb1⟩; obtain ⟨hc1, hf1, hz1⟩ := bcell hb1; have hk1 := bblk hb1; (try simp only [World.size_alloc, World.size_setCell, World.size_drew] at hc1 hf1 hz1 hk1)))
              go_roundw
              case rel => exact ⟨k + 1, by omega, by go_num, Lib.hid (St.upS_succ hup.out (by unfold Sl.ok; rw [hq]; simp [hk0.out])), (by repeat' (first | (with_reducible exact Below.refl _ _) | (with_reducible assumption) | (with_reducible refine Below.alloc ?_ ?_ _) | (with_reducible refine Below.setCell ?_ ?_ _) | (with_reducible refine below_setRow ?_ ?_) | (with_reducible refine Below.drew ?_) | (with_reducible refine below_dn ?_ _) | (with_reducible refine Below.trans ?_ (Below.mono (by assumption) ?_)) | go_size))⟩
              case measure => simp [intOf]; omega
          · have hk0 := Lib.hid hk0'
            have hk1b : ((s.s k).v.k == 0) = false := by simp [hk0']
            have hk2b : ((s.s k).v.k != 0) = true := by simp [hk0']
            clear hk0'
            cases hp : ((s.s k).p == 255#8)
            · go_wp2_with (first | (go_at_call 28; (with_reducible refine (vright_c' _ _ _ _ _ _ _ _).mono ?_); rintro e w1 ⟨rfl, hb1⟩; obtain ⟨hc1, hf1, hz1⟩ := bcell hb1; have hk1 := bblk hb1; (try simp only [World.size_alloc, World.size_setCell, World.size_drew] at hc1 hf1 hz1 hk1)))
              all_goals (go_ret; exact ⟨Eq.trans (b := Ending.returned (.bool false)) rfl (by rw [St.right_noS hlt2 (by unfold Sl.ok; rw [hp]; simp [hk0.out])]), (by repeat' (first | (with_reducible exact Below.refl _ _) | (with_reducible assumption) | (with_reducible refine Below.alloc ?_ ?_ _) | (with_reducible refine Below.setCell ?_ ?_ _) | (with_reducible refine below_setRow ?_ ?_) | (with_reducible refine Below.drew ?_) | (with_reducible refine below_dn ?_ _) | (with_reducible refine Below.trans ?_ (Below.mono (by assumption) ?_)) | go_size))⟩)
            · cases hq : Vl.right (s.s k).v
              · go_wp2_with (first | (go_at_call 28; (with_reducible refine (vright_c' _ _ _ _ _ _ _ _).mono ?_); rintro e w1 ⟨rfl, hb1⟩; obtain ⟨hc1, hf1, hz1⟩ := bcell hb1; have hk1 := bblk hb1; (try simp only [World.size_alloc, World.size_setCell, World.size_drew] at hc1 hf1 hz1 hk1)))
                go_ret
                exact ⟨Eq.trans (b := Ending.returned (.bool false)) rfl (by rw [St.right_noS hlt2 (by unfold Sl.ok; rw [hq]; rfl)]), (by repeat' (first | (with_reducible exact Below.refl _ _) | (with_reducible assumption) | (with_reducible refine Below.alloc ?_ ?_ _) | (with_reducible refine Below.setCell ?_ ?_ _) | (with_reducible refine below_setRow ?_ ?_) | (with_reducible refine Below.drew ?_) | (with_reducible refine below_dn ?_ _) | (with_reducible refine Below.trans ?_ (Below.mono (by assumption) ?_)) | go_size))⟩
              · go_wp2_with (first | (go_at_call 28; (with_reducible refine (vright_c' _ _ _ _ _ _ _ _).mono ?_); rintro e w1 ⟨rfl, hb1⟩; obtain ⟨hc1, hf1, hz1⟩ := bcell hb1; have hk1 := bblk hb1; (try simp only [World.size_alloc, World.size_setCell, World.size_drew] at hc1 hf1 hz1 hk1)))
                go_roundw
                case rel => exact ⟨k + 1, by omega, by go_num, Lib.hid (St.upS_succ hup.out (by unfold Sl.ok; rw [hq, hp]; simp)), (by repeat' (first | (with_reducible exact Below.refl _ _) | (with_reducible assumption) | (with_reducible refine Below.alloc ?_ ?_ _) | (with_reducible refine Below.setCell ?_ ?_ _) | (with_reducible refine below_setRow ?_ ?_) | (with_reducible refine Below.drew ?_) | (with_reducible refine below_dn ?_ _) | (with_reducible refine Below.trans ?_ (Below.mono (by assumption) ?_)) | go_size))⟩
                case measure => simp [intOf]; omega
        · obtain rfl : k = 64 := by omega
          have h64 := Lib.hid hup.out
          clear hup
          go_wp2
          go_ret
          exact ⟨Eq.trans (b := Ending.returned (.bool true)) rfl (by rw [St.right_yes h11'.out h64.out]), (by repeat' (first | (with_reducible exact Below.refl _ _) | (with_reducible assumption) | (with_reducible refine Below.alloc ?_ ?_ _) | (with_reducible refine Below.setCell ?_ ?_ _) | (with_reducible refine below_setRow ?_ ?_) | (with_reducible refine Below.drew ?_) | (with_reducible refine below_dn ?_ _) | (with_reducible refine Below.trans ?_ (Below.mono (by assumption) ?_)) | go_size))⟩

end Hk
