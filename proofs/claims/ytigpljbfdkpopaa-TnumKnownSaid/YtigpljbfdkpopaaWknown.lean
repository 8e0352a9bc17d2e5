/- The statement TnumKnown of the Go text: it returns true, and old memory is as it was. No condition. -/
import Derived.Test.YtigpljbfdkpopaaProg
import Derived.Test.YtigpljbfdkpopaaWd
import Derived.Test.YtigpljbfdkpopaaLw4
import Derived.Test.YtigpljbfdkpopaaLd
import Derived.Test.YtigpljbfdkpopaaTnLaw
import Derived.Test.YtigpljbfdkpopaaRb1
import Derived.Test.YtigpljbfdkpopaaRb3
namespace Hk
open Go Go.RowKit Go.Proofs
set_option linter.unusedSimpArgs false
set_option linter.unusedVariables false
set_option maxRecDepth 100000
attribute [go_sem] Alu.val_some Alu.err_some
def KnownC (t : Tn) (w wB : World) (w' : World) : Prop := w'.cell? ⟨wB.heap.size, 0, none⟩ = some (.int .u64 (N t.v)) ∧ w'.cell? ⟨wB.heap.size, 1, none⟩ = some (.int .u64 (N t.m)) ∧ Below w.heap.size w w'
theorem KnownC_keep {t : Tn} {w wB : World} (w' w1 : World) (h : KnownC t w wB w') (hb : Below w'.heap.size w' w1) : KnownC t w wB w1 := by
  obtain ⟨k0, k1, k2⟩ := h
  exact ⟨cell_keep hb k0, cell_keep hb k1, below_next k2 hb⟩

set_option maxHeartbeats 2000000 in
theorem tnumKnown_walk (op : Int) (hop : 0 ≤ op ∧ op ≤ 255) (a b : BitVec 64) (wd : Int) (hu : 0 ≤ wd ∧ wd ≤ 255) (w : World) : Calls Try.prog 7 #[.int .u8 op, .int .u64 (N a), .int .u64 (N b), .int .u8 wd] w fun e w' => e = .returned (.bool true) ∧ Below w.heap.size w w' := by
  clear hop
  have hu0 : 0 ≤ wd := hu.1
  have hu1 : wd ≤ 255 := hu.2
  have hk0 : 0 ≤ wd % 63 + 1 := by omega
  have hk1 := shl_ne (wd % 63 + 1) hk0 (by omega)
  have e1 := Tn.known_cut a (wd % 63 + 1) (by omega) (by omega)
  clear hu
  cases hd : Tn.do_ op (Tn.of a) (Tn.of b) with
  | none =>
    go_enter Try.func7, Try.ntmps7
    go_wp2_with fail
    refine (shown_c _).mono ?_
    rintro e wA ⟨rfl, hbwA⟩
    obtain ⟨hcwA, hfwA, hzwA⟩ := bcell hbwA
    (try simp only [World.size_alloc, World.size_setCell, World.size_drew] at hcwA hfwA hzwA)
    go_wp2_with fail
    refine (of_c _ _).mono ?_
    rintro e wO ⟨rfl, hbwO⟩
    obtain ⟨hcwO, hfwO, hzwO⟩ := bcell hbwO
    (try simp only [World.size_alloc, World.size_setCell, World.size_drew] at hcwO hfwO hzwO)
    go_wp2_with fail
    refine (of_c _ _).mono ?_
    rintro e wP ⟨rfl, hbwP⟩
    obtain ⟨hcwP, hfwP, hzwP⟩ := bcell hbwP
    (try simp only [World.size_alloc, World.size_setCell, World.size_drew] at hcwP hfwP hzwP)
    go_wp2_with fail
    refine (do_c _ _ _ _).mono ?_
    rintro e wB ⟨rfl, hbwB⟩
    obtain ⟨hcwB, hfwB, hzwB⟩ := bcell hbwB
    (try simp only [World.size_alloc, World.size_setCell, World.size_drew] at hcwB hfwB hzwB)
    go_wp2_with fail
    refine wp_region_class (KnownC ⟨0#64, 0#64⟩ w wB) (by kernel_rfl) (by kernel_rfl) ?_ ?_
    · refine ⟨?_, ?_, (by repeat' (first | (with_reducible exact Below.refl _ _) | (with_reducible assumption) | (with_reducible refine Below.alloc ?_ ?_ _) | (with_reducible refine Below.setCell ?_ ?_ _) | (with_reducible refine Below.drew ?_) | (with_reducible refine Below.trans ?_ (Below.mono (by assumption) ?_)) | go_size))⟩
      all_goals (simp [*, go_sem, ↓IntWalk.iteOmega]; done)
    intro hN
    repeat (first
      | go_big_quiet_skip
      | (go_big_quiet_want
         first
           | (refine quiet_loadT rfl rfl (fun w' hC => by obtain ⟨k0, k1, k2⟩ := hC; first | exact ⟨k0, k1⟩) ?_
              simp only [Act.put, List.setIfInBounds_toArray, List.set_cons_succ, List.set_cons_zero]
              go_big_quiet_on)
           | (refine quiet_loadW rfl rfl (fun w' hC => by obtain ⟨k0, k1, k2⟩ := hC; first | exact k0 | exact k1) ?_
              simp only [Act.put, List.setIfInBounds_toArray, List.set_cons_succ, List.set_cons_zero]
              go_big_quiet_on)
           | (go_big_quiet_op
              first
                | go_big_quiet_on
                | (apply Exists.intro
                   refine ⟨fun w' hC => ?_, ?_⟩
                   · (first | (go_at_call 20; (with_reducible refine (of_c _ _).mono ?_); rintro e w1 ⟨rfl, hb1⟩) | (go_at_call 21; (with_reducible refine (cut_c ⟨_, _⟩ _ _).mono ?_); rintro e w1 ⟨rfl, hb1⟩))
                     (try simp only [Tn.eta, e1])
                     exact ⟨rfl, by first | exact hC | exact KnownC_keep _ _ hC hb1⟩
                   go_big_quiet_on))))
    refine wpQuiet_nil ?_
    intro w9 hC
    obtain ⟨k0, k1, k2⟩ := hC
    go_wp2
    go_ret
    exact ⟨rfl, k2⟩
  | some t =>
    obtain ⟨z, hz, ht⟩ := Tn.do_of hd
    have HOP := Lib.hid (Tn.told_of hd)
    subst ht
    go_enter Try.func7, Try.ntmps7
    go_wp2_with fail
    refine (shown_c _).mono ?_
    rintro e wA ⟨rfl, hbwA⟩
    obtain ⟨hcwA, hfwA, hzwA⟩ := bcell hbwA
    (try simp only [World.size_alloc, World.size_setCell, World.size_drew] at hcwA hfwA hzwA)
    go_wp2_with fail
    refine (of_c _ _).mono ?_
    rintro e wO ⟨rfl, hbwO⟩
    obtain ⟨hcwO, hfwO, hzwO⟩ := bcell hbwO
    (try simp only [World.size_alloc, World.size_setCell, World.size_drew] at hcwO hfwO hzwO)
    go_wp2_with fail
    refine (of_c _ _).mono ?_
    rintro e wP ⟨rfl, hbwP⟩
    obtain ⟨hcwP, hfwP, hzwP⟩ := bcell hbwP
    (try simp only [World.size_alloc, World.size_setCell, World.size_drew] at hcwP hfwP hzwP)
    go_wp2_with fail
    refine (do_c _ _ _ _).mono ?_
    rintro e wB ⟨rfl, hbwB⟩
    obtain ⟨hcwB, hfwB, hzwB⟩ := bcell hbwB
    (try simp only [World.size_alloc, World.size_setCell, World.size_drew] at hcwB hfwB hzwB)
    go_wp2_with fail
    refine (rdo_told _ HOP.out _ _ _).mono ?_
    rintro e wF ⟨rfl, rfl⟩
    go_wp2_with fail
    refine wp_region_class (KnownC (Tn.of z) w wB) (by kernel_rfl) (by kernel_rfl) ?_ ?_
    · refine ⟨?_, ?_, (by repeat' (first | (with_reducible exact Below.refl _ _) | (with_reducible assumption) | (with_reducible refine Below.alloc ?_ ?_ _) | (with_reducible refine Below.setCell ?_ ?_ _) | (with_reducible refine Below.drew ?_) | (with_reducible refine Below.trans ?_ (Below.mono (by assumption) ?_)) | go_size))⟩
      all_goals (simp [*, go_sem, ↓IntWalk.iteOmega]; done)
    intro hN
    repeat (first
      | go_big_quiet_skip
      | (go_big_quiet_want
         first
           | (refine quiet_loadT rfl rfl (fun w' hC => by obtain ⟨k0, k1, k2⟩ := hC; first | exact ⟨k0, k1⟩) ?_
              simp only [Act.put, List.setIfInBounds_toArray, List.set_cons_succ, List.set_cons_zero]
              go_big_quiet_on)
           | (refine quiet_loadW rfl rfl (fun w' hC => by obtain ⟨k0, k1, k2⟩ := hC; first | exact k0 | exact k1) ?_
              simp only [Act.put, List.setIfInBounds_toArray, List.set_cons_succ, List.set_cons_zero]
              go_big_quiet_on)
           | (go_big_quiet_op
              first
                | go_big_quiet_on
                | (apply Exists.intro
                   refine ⟨fun w' hC => ?_, ?_⟩
                   · (first | (go_at_call 20; (with_reducible refine (of_c _ _).mono ?_); rintro e w1 ⟨rfl, hb1⟩) | (go_at_call 21; (with_reducible refine (cut_c ⟨_, _⟩ _ _).mono ?_); rintro e w1 ⟨rfl, hb1⟩))
                     (try simp only [Tn.eta, e1])
                     exact ⟨rfl, by first | exact hC | exact KnownC_keep _ _ hC hb1⟩
                   go_big_quiet_on))))
    refine wpQuiet_nil ?_
    intro w9 hC
    obtain ⟨k0, k1, k2⟩ := hC
    go_wp2_with fail
    obtain ⟨wG, rfl⟩ : ∃ wG : World, wG = w9 := ⟨_, rfl⟩
    refine wp_region_class (KnownC (Tn.of z) w wB) (by kernel_rfl) (by kernel_rfl) ?_ ?_
    · refine ⟨?_, ?_, (by repeat' (first | (with_reducible exact Below.refl _ _) | (with_reducible assumption) | (with_reducible refine Below.alloc ?_ ?_ _) | (with_reducible refine Below.setCell ?_ ?_ _) | (with_reducible refine Below.drew ?_) | (with_reducible refine Below.trans ?_ (Below.mono (by assumption) ?_)) | go_size))⟩
      all_goals (simp [*, go_sem, ↓IntWalk.iteOmega]; done)
    intro hN
    repeat (first
      | go_big_quiet_skip
      | (go_big_quiet_want
         first
           | (refine quiet_loadT rfl rfl (fun w' hC => by obtain ⟨k0, k1, k2⟩ := hC; first | exact ⟨k0, k1⟩) ?_
              simp only [Act.put, List.setIfInBounds_toArray, List.set_cons_succ, List.set_cons_zero]
              go_big_quiet_on)
           | (refine quiet_loadW rfl rfl (fun w' hC => by obtain ⟨k0, k1, k2⟩ := hC; first | exact k0 | exact k1) ?_
              simp only [Act.put, List.setIfInBounds_toArray, List.set_cons_succ, List.set_cons_zero]
              go_big_quiet_on)
           | (go_big_quiet_op
              first
                | go_big_quiet_on
                | (apply Exists.intro
                   refine ⟨fun w' hC => ?_, ?_⟩
                   · (first | (go_at_call 20; (with_reducible refine (of_c _ _).mono ?_); rintro e w1 ⟨rfl, hb1⟩) | (go_at_call 21; (with_reducible refine (cut_c ⟨_, _⟩ _ _).mono ?_); rintro e w1 ⟨rfl, hb1⟩))
                     (try simp only [Tn.eta, e1])
                     exact ⟨rfl, by first | exact hC | exact KnownC_keep _ _ hC hb1⟩
                   go_big_quiet_on))))
    refine wpQuiet_nil ?_
    intro w9 hC
    obtain ⟨k0, k1, k2⟩ := hC
    go_wp2
    go_ret
    exact ⟨rfl, k2⟩

end Hk
