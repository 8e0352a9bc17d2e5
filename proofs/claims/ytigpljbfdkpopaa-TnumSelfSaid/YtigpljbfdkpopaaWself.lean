/- The statement TnumSelf of the Go text: it returns true, and old memory is as it was. No condition. -/
import Derived.Test.YtigpljbfdkpopaaProg
import Derived.Test.YtigpljbfdkpopaaWd
import Derived.Test.YtigpljbfdkpopaaLw4
import Derived.Test.YtigpljbfdkpopaaLd
import Derived.Test.YtigpljbfdkpopaaTnLaw
import Derived.Test.YtigpljbfdkpopaaRb1
namespace Hk
open Go Go.RowKit Go.Proofs
set_option linter.unusedSimpArgs false
set_option linter.unusedVariables false
set_option maxRecDepth 100000
def SelfC (v m n : BitVec 64) (w wB wC : World) (w' : World) : Prop := w'.cell? ⟨wB.heap.size, 0, none⟩ = some (.int .u64 (N (Tn.made v m).v)) ∧ w'.cell? ⟨wB.heap.size, 1, none⟩ = some (.int .u64 (N (Tn.made v m).m)) ∧ w'.cell? ⟨wC.heap.size, 0, none⟩ = some (.int .u64 (N (Tn.made v m).v)) ∧ w'.cell? ⟨wC.heap.size, 1, none⟩ = some (.int .u64 (N (Tn.made v m).m)) ∧ Below w.heap.size w w'
theorem SelfC_keep {v m n : BitVec 64} {w wB wC : World} (w' w1 : World) (h : SelfC v m n w wB wC w') (hb : Below w'.heap.size w' w1) : SelfC v m n w wB wC w1 := by
  obtain ⟨k0, k1, k2, k3, k4⟩ := h
  exact ⟨cell_keep hb k0, cell_keep hb k1, cell_keep hb k2, cell_keep hb k3, below_next k4 hb⟩

set_option maxHeartbeats 2000000 in
theorem tnumSelf_walk (v m n o : BitVec 64) (wd : Int) (hu : 0 ≤ wd ∧ wd ≤ 255) (w : World) : Calls Try.prog 9 #[.int .u64 (N v), .int .u64 (N m), .int .u64 (N n), .int .u64 (N o), .int .u8 wd] w fun e w' => e = .returned (.bool true) ∧ Below w.heap.size w w' := by
  have hu0 : 0 ≤ wd := hu.1
  have hu1 : wd ≤ 255 := hu.2
  have hk0 : 0 ≤ wd % 63 + 1 := by omega
  have hk1 := shl_ne (wd % 63 + 1) hk0 (by omega)
  have ra := Tn.right_made v m
  have hx := Tn.has_num v m n
  have e1 := Tn.join_self ra
  have e2 := Tn.meet_self ra
  have e3 := Tn.meetOk_self ra
  have e4 := Tn.within_refl ra
  have e5 : (Tn.of (Tn.num v m n)).within (Tn.made v m) = true := by rw [Tn.within_of]; exact hx
  have e6 := Tn.within_of o (Tn.made v m)
  have e7 : (Tn.cutI (Tn.made v m) (wd % 63 + 1)).has (Tn.num v m n % 1#64 <<< (wd % 63 + 1).toNat) = true := by
    rw [Tn.cutI_in ra (by omega) (by omega), Tn.mod_low _ _ (by omega)]; exact Tn.has_cut hx _
  clear ra hx hu
  cases e8 : (Tn.made v m).has o
  all_goals
    rw [e8] at e6
    go_enter Try.func9, Try.ntmps9
    go_wp2_with fail
    refine (shown_c _).mono ?_
    rintro e wA ⟨rfl, hbwA⟩
    obtain ⟨hcwA, hfwA, hzwA⟩ := bcell hbwA
    (try simp only [World.size_alloc, World.size_setCell, World.size_drew] at hcwA hfwA hzwA)
    go_wp2_with fail
    refine (lmade_c v m n _).mono ?_
    rintro e wB ⟨rfl, hbwB⟩
    obtain ⟨hcwB, hfwB, hzwB⟩ := bcell hbwB
    (try simp only [World.size_alloc, World.size_setCell, World.size_drew] at hcwB hfwB hzwB)
    go_wp2_with fail
    refine (meet_c _ _ _).mono ?_
    rintro e wC ⟨rfl, hbwC⟩
    obtain ⟨hcwC, hfwC, hzwC⟩ := bcell hbwC
    (try simp only [World.size_alloc, World.size_setCell, World.size_drew] at hcwC hfwC hzwC)
    go_wp2_with fail
    refine wp_region_class (SelfC v m n w wB wC) (by kernel_rfl) (by kernel_rfl) ?_ ?_
    · refine ⟨?_, ?_, ?_, ?_, (by repeat' (first | (with_reducible exact Below.refl _ _) | (with_reducible assumption) | (with_reducible refine Below.alloc ?_ ?_ _) | (with_reducible refine Below.setCell ?_ ?_ _) | (with_reducible refine Below.drew ?_) | (with_reducible refine Below.trans ?_ (Below.mono (by assumption) ?_)) | go_size))⟩
      all_goals (simp [*, go_sem, ↓IntWalk.iteOmega]; done)
    clear hbwA hcwA hfwA hzwA hbwB hcwB hfwB hzwB hbwC hcwC hfwC hzwC
    intro hN
    repeat (first
      | go_big_quiet_skip
      | (go_big_quiet_want
         first
           | (refine quiet_loadT rfl rfl (fun w' hC => by obtain ⟨k0, k1, k2, k3, k4⟩ := hC; first | exact ⟨k0, k1⟩ | exact ⟨k2, k3⟩) ?_
              simp only [Act.put, List.setIfInBounds_toArray, List.set_cons_succ, List.set_cons_zero]
              go_big_quiet_on)
           | (refine quiet_loadW rfl rfl (fun w' hC => by obtain ⟨k0, k1, k2, k3, k4⟩ := hC; first | exact k0 | exact k1 | exact k2 | exact k3) ?_
              simp only [Act.put, List.setIfInBounds_toArray, List.set_cons_succ, List.set_cons_zero]
              go_big_quiet_on)
           | (go_big_quiet_op
              first
                | go_big_quiet_on
                | (apply Exists.intro
                   refine ⟨fun w' hC => ?_, ?_⟩
                   · (first | (go_at_call 18; (with_reducible refine (within_c ⟨_, _⟩ ⟨_, _⟩ _).mono ?_); rintro e w1 ⟨rfl, hb1⟩) | (go_at_call 17; (with_reducible refine (join_c ⟨_, _⟩ ⟨_, _⟩ _).mono ?_); rintro e w1 ⟨rfl, hb1⟩) | (go_at_call 20; (with_reducible refine (of_c _ _).mono ?_); rintro e w1 ⟨rfl, hb1⟩) | (go_at_call 16; (with_reducible refine (has_c ⟨_, _⟩ _ _).mono ?_); rintro e w1 ⟨rfl, hb1⟩) | (go_at_call 21; (with_reducible refine (cut_c ⟨_, _⟩ _ _).mono ?_); rintro e w1 ⟨rfl, hb1⟩))
                     (try simp only [Tn.eta, e1, e2, e3, e4, e5, e6, e7, e8])
                     exact ⟨rfl, by first | exact hC | exact SelfC_keep _ _ hC hb1⟩
                   go_big_quiet_on))))
    refine wpQuiet_nil ?_
    intro w9 hC
    obtain ⟨k0, k1, k2, k3, k4⟩ := hC
    go_wp2
    go_ret
    exact ⟨rfl, k4⟩

end Hk
