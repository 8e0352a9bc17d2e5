/- The statement TnumOrder of the Go text: it returns true, and old memory is as it was. No condition. -/
import Derived.Test.YtigpljbfdkpopaaProg
import Derived.Test.YtigpljbfdkpopaaWd
import Derived.Test.YtigpljbfdkpopaaLw4
import Derived.Test.YtigpljbfdkpopaaLd
namespace Hk
open Go Go.RowKit Go.Proofs
set_option linter.unusedSimpArgs false
set_option linter.unusedVariables false
set_option maxRecDepth 100000
def OrdC (v m q k y o : BitVec 64) (w wB wC wD wE : World) (w' : World) : Prop := w'.cell? ⟨wB.heap.size, 0, none⟩ = some (.int .u64 (N (Tn.made v m).v)) ∧ w'.cell? ⟨wB.heap.size, 1, none⟩ = some (.int .u64 (N (Tn.made v m).m)) ∧ w'.cell? ⟨wC.heap.size, 0, none⟩ = some (.int .u64 (N (Tn.made q k).v)) ∧ w'.cell? ⟨wC.heap.size, 1, none⟩ = some (.int .u64 (N (Tn.made q k).m)) ∧ w'.cell? ⟨wD.heap.size, 0, none⟩ = some (.int .u64 (N (Tn.made y o).v)) ∧ w'.cell? ⟨wD.heap.size, 1, none⟩ = some (.int .u64 (N (Tn.made y o).m)) ∧ w'.cell? ⟨wE.heap.size, 0, none⟩ = some (.int .u64 (N (Tn.join (Tn.made v m) (Tn.made q k)).v)) ∧ w'.cell? ⟨wE.heap.size, 1, none⟩ = some (.int .u64 (N (Tn.join (Tn.made v m) (Tn.made q k)).m)) ∧ Below w.heap.size w w'
theorem OrdC_keep {v m q k y o : BitVec 64} {w wB wC wD wE : World} (w' w1 : World) (h : OrdC v m q k y o w wB wC wD wE w') (hb : Below w'.heap.size w' w1) : OrdC v m q k y o w wB wC wD wE w1 := by
  obtain ⟨k0, k1, k2, k3, k4, k5, k6, k7, k8⟩ := h
  exact ⟨cell_keep hb k0, cell_keep hb k1, cell_keep hb k2, cell_keep hb k3, cell_keep hb k4, cell_keep hb k5, cell_keep hb k6, cell_keep hb k7, below_next k8 hb⟩

set_option maxHeartbeats 2000000 in
theorem tnumOrder_walk (v m q k y o : BitVec 64) (w : World) : Calls Try.prog 5 #[.int .u64 (N v), .int .u64 (N m), .int .u64 (N q), .int .u64 (N k), .int .u64 (N y), .int .u64 (N o)] w fun e w' => e = .returned (.bool true) ∧ Below w.heap.size w w' := by
  have ra := Tn.right_made v m
  have rb := Tn.right_made q k
  have e1 := fun h1 h2 => Tn.within_trans (a := (Tn.made v m)) (b := (Tn.made q k)) (c := (Tn.made y o)) h1 h2
  have e2 := Tn.join_comm (Tn.made v m) (Tn.made q k)
  have e3 := Tn.within_join (c := Tn.made y o) ra rb
  clear ra rb
  cases h1 : (Tn.made v m).within (Tn.made q k) <;> cases h2 : (Tn.made q k).within (Tn.made y o) <;> cases h3 : (Tn.made v m).within (Tn.made y o)
  all_goals first
    | (exfalso; have := e1 h1 h2; rw [h3] at this; cases this; done)
    | skip
  all_goals
    clear e1
    rw [h2, h3] at e3
    simp only [Bool.and_self, Bool.and_true, Bool.and_false, Bool.true_and, Bool.false_and] at e3
    go_enter Try.func5, Try.ntmps5
    go_wp2_with fail
    refine (shown_c _).mono ?_
    rintro e wA ⟨rfl, hbwA⟩
    obtain ⟨hcwA, hfwA, hzwA⟩ := bcell hbwA
    (try simp only [World.size_alloc, World.size_setCell, World.size_drew] at hcwA hfwA hzwA)
    go_wp2_with fail
    refine (lmade_c v m 0#64 _).mono ?_
    rintro e wB ⟨rfl, hbwB⟩
    obtain ⟨hcwB, hfwB, hzwB⟩ := bcell hbwB
    (try simp only [World.size_alloc, World.size_setCell, World.size_drew] at hcwB hfwB hzwB)
    go_wp2_with fail
    refine (lmade_c q k 0#64 _).mono ?_
    rintro e wC ⟨rfl, hbwC⟩
    obtain ⟨hcwC, hfwC, hzwC⟩ := bcell hbwC
    (try simp only [World.size_alloc, World.size_setCell, World.size_drew] at hcwC hfwC hzwC)
    go_wp2_with fail
    refine (lmade_c y o 0#64 _).mono ?_
    rintro e wD ⟨rfl, hbwD⟩
    obtain ⟨hcwD, hfwD, hzwD⟩ := bcell hbwD
    (try simp only [World.size_alloc, World.size_setCell, World.size_drew] at hcwD hfwD hzwD)
    go_wp2_with fail
    refine (join_c _ _ _).mono ?_
    rintro e wE ⟨rfl, hbwE⟩
    obtain ⟨hcwE, hfwE, hzwE⟩ := bcell hbwE
    (try simp only [World.size_alloc, World.size_setCell, World.size_drew] at hcwE hfwE hzwE)
    go_wp2_with fail
    refine wp_region_class (OrdC v m q k y o w wB wC wD wE) (by kernel_rfl) (by kernel_rfl) ?_ ?_
    · refine ⟨?_, ?_, ?_, ?_, ?_, ?_, ?_, ?_, (by repeat' (first | (with_reducible exact Below.refl _ _) | (with_reducible assumption) | (with_reducible refine Below.alloc ?_ ?_ _) | (with_reducible refine Below.setCell ?_ ?_ _) | (with_reducible refine Below.drew ?_) | (with_reducible refine Below.trans ?_ (Below.mono (by assumption) ?_)) | go_size))⟩
      all_goals (simp [*, go_sem, ↓IntWalk.iteOmega]; done)
    clear hbwA hcwA hfwA hzwA hbwB hcwB hfwB hzwB hbwC hcwC hfwC hzwC hbwD hcwD hfwD hzwD hbwE hcwE hfwE hzwE
    intro hN
    repeat (first
      | go_big_quiet_skip
      | (go_big_quiet_want
         first
           | (refine quiet_loadT rfl rfl (fun w' hC => by obtain ⟨k0, k1, k2, k3, k4, k5, k6, k7, k8⟩ := hC; first | exact ⟨k0, k1⟩ | exact ⟨k2, k3⟩ | exact ⟨k4, k5⟩ | exact ⟨k6, k7⟩) ?_
              simp only [Act.put, List.setIfInBounds_toArray, List.set_cons_succ, List.set_cons_zero]
              go_big_quiet_on)
           | (refine quiet_loadW rfl rfl (fun w' hC => by obtain ⟨k0, k1, k2, k3, k4, k5, k6, k7, k8⟩ := hC; first | exact k0 | exact k1 | exact k2 | exact k3 | exact k4 | exact k5 | exact k6 | exact k7) ?_
              simp only [Act.put, List.setIfInBounds_toArray, List.set_cons_succ, List.set_cons_zero]
              go_big_quiet_on)
           | (go_big_quiet_op
              first
                | go_big_quiet_on
                | (apply Exists.intro
                   refine ⟨fun w' hC => ?_, ?_⟩
                   · (first | (go_at_call 18; (with_reducible refine (within_c ⟨_, _⟩ ⟨_, _⟩ _).mono ?_); rintro e w1 ⟨rfl, hb1⟩) | (go_at_call 17; (with_reducible refine (join_c ⟨_, _⟩ ⟨_, _⟩ _).mono ?_); rintro e w1 ⟨rfl, hb1⟩))
                     (try simp only [Tn.eta, h1, h2, h3, e2, e3])
                     exact ⟨rfl, by first | exact hC | exact OrdC_keep _ _ hC hb1⟩
                   go_big_quiet_on))))
    refine wpQuiet_nil ?_
    intro w9 hC
    obtain ⟨k0, k1, k2, k3, k4, k5, k6, k7, k8⟩ := hC
    go_wp2
    go_ret
    exact ⟨rfl, k8⟩

end Hk
