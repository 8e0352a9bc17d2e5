/- The statement SpanParts of the Go text: it returns true, and old memory is as it was. No condition. -/
import Derived.Test.YtkpmhnfgldchaaaProg
import Derived.Test.YtkpmhnfgldchaaaWd
import Derived.Test.YtkpmhnfgldchaaaSl1
import Derived.Test.YtkpmhnfgldchaaaKp
import Derived.Test.YtkpmhnfgldchaaaLdsp
namespace Hk
open Go Go.RowKit Go.Proofs
set_option linter.unusedSimpArgs false
set_option linter.unusedVariables false
set_option maxRecDepth 100000
def SPartsC (a b c m j : Sp) (w wA wB wC wD wE : World) (w' : World) : Prop := w'.cell? ⟨wA.heap.size, 0, none⟩ = some (.int .u64 (N a.lo)) ∧ w'.cell? ⟨wA.heap.size, 1, none⟩ = some (.int .u64 (N a.hi)) ∧ w'.cell? ⟨wB.heap.size, 0, none⟩ = some (.int .u64 (N b.lo)) ∧ w'.cell? ⟨wB.heap.size, 1, none⟩ = some (.int .u64 (N b.hi)) ∧ w'.cell? ⟨wC.heap.size, 0, none⟩ = some (.int .u64 (N c.lo)) ∧ w'.cell? ⟨wC.heap.size, 1, none⟩ = some (.int .u64 (N c.hi)) ∧ w'.cell? ⟨wD.heap.size, 0, none⟩ = some (.int .u64 (N m.lo)) ∧ w'.cell? ⟨wD.heap.size, 1, none⟩ = some (.int .u64 (N m.hi)) ∧ w'.cell? ⟨wE.heap.size, 0, none⟩ = some (.int .u64 (N j.lo)) ∧ w'.cell? ⟨wE.heap.size, 1, none⟩ = some (.int .u64 (N j.hi)) ∧ Below w.heap.size w w'
theorem SPartsC_keep {a b c m j : Sp} {w wA wB wC wD wE : World} (w' w1 : World) (h : SPartsC a b c m j w wA wB wC wD wE w') (hb : Below w'.heap.size w' w1) : SPartsC a b c m j w wA wB wC wD wE w1 := by
  obtain ⟨k0, k1, k2, k3, k4, k5, k6, k7, k8, k9, k10⟩ := h
  exact ⟨cell_keep hb k0, cell_keep hb k1, cell_keep hb k2, cell_keep hb k3, cell_keep hb k4, cell_keep hb k5, cell_keep hb k6, cell_keep hb k7, cell_keep hb k8, cell_keep hb k9, below_next k10 hb⟩

/-- what is so of the three spans -/
def PartsF (a b c : Sp) (x o : BitVec 64) : Prop :=
  a.has x = true ∧ (Sp.meetOk a b && (Sp.meet a b).has o) = (a.has o && b.has o) ∧ a.within (Sp.join a b) = true ∧ b.within (Sp.join a b) = true ∧ a.within ⟨0#64, 18446744073709551615#64⟩ = true ∧
  (Sp.meetOk a b = true → (Sp.meet a b).within a = true ∧ (Sp.meet a b).within b = true) ∧ (a.within b = true → b.within c = true → a.within c = true)
theorem partsF (n0 n1 n2 n3 n4 n5 o : BitVec 64) : PartsF (Sp.mk2 n0 n1) (Sp.mk2 n2 n3) (Sp.mk2 n4 n5) (Sp.num n0 n1 o) o :=
  ⟨Sp.mk2_has n0 n1 o, Sp.meet_has _ _ o (Sp.mk2_right n0 n1) (Sp.mk2_right n2 n3), (Sp.within_join (Sp.mk2_right n0 n1) (Sp.mk2_right n2 n3)).1, (Sp.within_join (Sp.mk2_right n0 n1) (Sp.mk2_right n2 n3)).2, Sp.within_all (Sp.mk2_right n0 n1), Sp.meet_within, Sp.within_trans⟩

set_option maxHeartbeats 8000000 in
theorem spanParts_walk (n0 n1 n2 n3 n4 n5 : BitVec 64) (o : BitVec 64) (w : World) : Calls Try.prog 7 #[.agg #[.int .u64 (N n0), .int .u64 (N n1), .int .u64 (N n2), .int .u64 (N n3), .int .u64 (N n4), .int .u64 (N n5)], .int .u64 (N o)] w fun e w' => e = .returned (.bool true) ∧ Below w.heap.size w w' := by
  have FF := Lib.hid (partsF n0 n1 n2 n3 n4 n5 o)
  go_enter Try.func7, Try.ntmps7
  go_wp2_with fail
  refine (sshown_c _).mono ?_
  rintro e wS ⟨rfl, hbwS⟩
  obtain ⟨hcwS, hfwS, hzwS⟩ := bcell hbwS
  (try simp only [World.size_alloc, World.size_setCell, World.size_drew] at hcwS hfwS hzwS)
  go_wp2_with fail
  refine (smade_c _ _ _ _).mono ?_
  rintro e wA ⟨rfl, hbwA⟩
  obtain ⟨hcwA, hfwA, hzwA⟩ := bcell hbwA
  (try simp only [World.size_alloc, World.size_setCell, World.size_drew] at hcwA hfwA hzwA)
  go_wp2_with fail
  refine (smade_c _ _ _ _).mono ?_
  rintro e wB ⟨rfl, hbwB⟩
  obtain ⟨hcwB, hfwB, hzwB⟩ := bcell hbwB
  (try simp only [World.size_alloc, World.size_setCell, World.size_drew] at hcwB hfwB hzwB)
  go_wp2_with fail
  refine (smade_c _ _ _ _).mono ?_
  rintro e wC ⟨rfl, hbwC⟩
  obtain ⟨hcwC, hfwC, hzwC⟩ := bcell hbwC
  (try simp only [World.size_alloc, World.size_setCell, World.size_drew] at hcwC hfwC hzwC)
  go_wp2_with fail
  refine (smeet_c' _ _ _ _ _).mono ?_
  rintro e wD ⟨rfl, hbwD⟩
  obtain ⟨hcwD, hfwD, hzwD⟩ := bcell hbwD
  (try simp only [World.size_alloc, World.size_setCell, World.size_drew] at hcwD hfwD hzwD)
  go_wp2_with fail
  refine (sjoin_c' _ _ _ _ _).mono ?_
  rintro e wE ⟨rfl, hbwE⟩
  obtain ⟨hcwE, hfwE, hzwE⟩ := bcell hbwE
  (try simp only [World.size_alloc, World.size_setCell, World.size_drew] at hcwE hfwE hzwE)
  go_wp2_with fail
  refine wp_region_class (SPartsC (Sp.mk2 n0 n1) (Sp.mk2 n2 n3) (Sp.mk2 n4 n5) (Sp.meet (Sp.mk2 n0 n1) (Sp.mk2 n2 n3)) (Sp.join (Sp.mk2 n0 n1) (Sp.mk2 n2 n3)) w wA wB wC wD wE) (by kernel_rfl) (by kernel_rfl) ?_ ?_
  · refine ⟨?_, ?_, ?_, ?_, ?_, ?_, ?_, ?_, ?_, ?_, (by repeat' (first | (with_reducible exact Below.refl _ _) | (with_reducible assumption) | (with_reducible refine Below.alloc ?_ ?_ _) | (with_reducible refine Below.setCell ?_ ?_ _) | (with_reducible refine Below.drew ?_) | (with_reducible refine below_dn ?_ _) | (with_reducible refine Below.trans ?_ (Below.mono (by assumption) ?_)) | go_size))⟩
    all_goals first | (intro i; simp [*, go_sem, ↓IntWalk.iteOmega]; done) | (simp [*, go_sem, ↓IntWalk.iteOmega]; done)
  clear hbwS hcwS hfwS hzwS hbwA hcwA hfwA hzwA hbwB hcwB hfwB hzwB hbwC hcwC hfwC hzwC hbwD hcwD hfwD hzwD hbwE hcwE hfwE hzwE
  intro hN
  (try simp only [List.append])
  obtain ⟨xa, key, v1, v2, v3, w4, w5⟩ := FF.out
  clear FF
  cases h1 : (Sp.mk2 n0 n1).has o <;> cases h2 : (Sp.mk2 n2 n3).has o <;> rw [h1, h2] at key
  all_goals
    cases hm : Sp.meetOk (Sp.mk2 n0 n1) (Sp.mk2 n2 n3)
    · rw [hm] at key
      simp only [Bool.false_and, Bool.and_true, Bool.and_false, Bool.and_self] at key
      first
      | (exact absurd key (by decide))
      | (clear w4 key
         cases h3 : (Sp.mk2 n0 n1).within (Sp.mk2 n2 n3)
         · clear w5
           repeat (first
             | go_big_quiet_skip
             | (go_big_quiet_want
                first
                  | (refine quiet_load_Sp rfl rfl (fun w' hC => by obtain ⟨k0, k1, k2, k3, k4, k5, k6, k7, k8, k9, k10⟩ := hC; first | exact ⟨k0, k1⟩ | exact ⟨k2, k3⟩ | exact ⟨k4, k5⟩ | exact ⟨k6, k7⟩ | exact ⟨k8, k9⟩) ?_
                     simp only [Act.put, List.setIfInBounds_toArray, List.set_cons_succ, List.set_cons_zero]
                     go_big_quiet_on)
                  | (refine quiet_load_W rfl rfl (fun w' hC => by obtain ⟨k0, k1, k2, k3, k4, k5, k6, k7, k8, k9, k10⟩ := hC; first | exact k0 | exact k1 | exact k2 | exact k3 | exact k4 | exact k5 | exact k6 | exact k7 | exact k8 | exact k9) ?_
                     simp only [Act.put, List.setIfInBounds_toArray, List.set_cons_succ, List.set_cons_zero]
                     go_big_quiet_on)
                  | (go_big_quiet_op
                     first
                       | go_big_quiet_on
                       | (apply Exists.intro
                          refine ⟨fun w' hC => ?_, ?_⟩
                          · (first | (go_at_call 21; (with_reducible refine (sall_c _).mono ?_); rintro e w1 ⟨rfl, hb1⟩) | (go_at_call 11; (with_reducible refine (shas_c' _ _ _ _).mono ?_); rintro e w1 ⟨rfl, hb1⟩) | (go_at_call 16; (with_reducible refine (swithin_c' _ _ _ _ _).mono ?_); rintro e w1 ⟨rfl, hb1⟩))
                            (try simp only [Sp.eta, h1, h2, xa, v1, v2, v3, h3])
                            exact ⟨rfl, by first | exact hC | exact SPartsC_keep _ _ hC hb1⟩
                          go_big_quiet_on))))
           refine wpQuiet_nil ?_
           intro w9 hC
           obtain ⟨k0, k1, k2, k3, k4, k5, k6, k7, k8, k9, k10⟩ := hC
           have z0 := cell_lt k0
           have z2 := cell_lt k2
           have z4 := cell_lt k4
           have z6 := cell_lt k6
           have z8 := cell_lt k8
           go_wp2
           go_ret
           exact ⟨rfl, k10⟩
         · cases h4 : (Sp.mk2 n2 n3).within (Sp.mk2 n4 n5)
           · clear w5
             repeat (first
               | go_big_quiet_skip
               | (go_big_quiet_want
                  first
                    | (refine quiet_load_Sp rfl rfl (fun w' hC => by obtain ⟨k0, k1, k2, k3, k4, k5, k6, k7, k8, k9, k10⟩ := hC; first | exact ⟨k0, k1⟩ | exact ⟨k2, k3⟩ | exact ⟨k4, k5⟩ | exact ⟨k6, k7⟩ | exact ⟨k8, k9⟩) ?_
                       simp only [Act.put, List.setIfInBounds_toArray, List.set_cons_succ, List.set_cons_zero]
                       go_big_quiet_on)
                    | (refine quiet_load_W rfl rfl (fun w' hC => by obtain ⟨k0, k1, k2, k3, k4, k5, k6, k7, k8, k9, k10⟩ := hC; first | exact k0 | exact k1 | exact k2 | exact k3 | exact k4 | exact k5 | exact k6 | exact k7 | exact k8 | exact k9) ?_
                       simp only [Act.put, List.setIfInBounds_toArray, List.set_cons_succ, List.set_cons_zero]
                       go_big_quiet_on)
                    | (go_big_quiet_op
                       first
                         | go_big_quiet_on
                         | (apply Exists.intro
                            refine ⟨fun w' hC => ?_, ?_⟩
                            · (first | (go_at_call 21; (with_reducible refine (sall_c _).mono ?_); rintro e w1 ⟨rfl, hb1⟩) | (go_at_call 11; (with_reducible refine (shas_c' _ _ _ _).mono ?_); rintro e w1 ⟨rfl, hb1⟩) | (go_at_call 16; (with_reducible refine (swithin_c' _ _ _ _ _).mono ?_); rintro e w1 ⟨rfl, hb1⟩))
                              (try simp only [Sp.eta, h1, h2, xa, v1, v2, v3, h3, h4])
                              exact ⟨rfl, by first | exact hC | exact SPartsC_keep _ _ hC hb1⟩
                            go_big_quiet_on))))
             refine wpQuiet_nil ?_
             intro w9 hC
             obtain ⟨k0, k1, k2, k3, k4, k5, k6, k7, k8, k9, k10⟩ := hC
             have z0 := cell_lt k0
             have z2 := cell_lt k2
             have z4 := cell_lt k4
             have z6 := cell_lt k6
             have z8 := cell_lt k8
             go_wp2
             go_ret
             exact ⟨rfl, k10⟩
           · have w8 := w5 h3 h4
             clear w5
             repeat (first
               | go_big_quiet_skip
               | (go_big_quiet_want
                  first
                    | (refine quiet_load_Sp rfl rfl (fun w' hC => by obtain ⟨k0, k1, k2, k3, k4, k5, k6, k7, k8, k9, k10⟩ := hC; first | exact ⟨k0, k1⟩ | exact ⟨k2, k3⟩ | exact ⟨k4, k5⟩ | exact ⟨k6, k7⟩ | exact ⟨k8, k9⟩) ?_
                       simp only [Act.put, List.setIfInBounds_toArray, List.set_cons_succ, List.set_cons_zero]
                       go_big_quiet_on)
                    | (refine quiet_load_W rfl rfl (fun w' hC => by obtain ⟨k0, k1, k2, k3, k4, k5, k6, k7, k8, k9, k10⟩ := hC; first | exact k0 | exact k1 | exact k2 | exact k3 | exact k4 | exact k5 | exact k6 | exact k7 | exact k8 | exact k9) ?_
                       simp only [Act.put, List.setIfInBounds_toArray, List.set_cons_succ, List.set_cons_zero]
                       go_big_quiet_on)
                    | (go_big_quiet_op
                       first
                         | go_big_quiet_on
                         | (apply Exists.intro
                            refine ⟨fun w' hC => ?_, ?_⟩
                            · (first | (go_at_call 21; (with_reducible refine (sall_c _).mono ?_); rintro e w1 ⟨rfl, hb1⟩) | (go_at_call 11; (with_reducible refine (shas_c' _ _ _ _).mono ?_); rintro e w1 ⟨rfl, hb1⟩) | (go_at_call 16; (with_reducible refine (swithin_c' _ _ _ _ _).mono ?_); rintro e w1 ⟨rfl, hb1⟩))
                              (try simp only [Sp.eta, h1, h2, xa, v1, v2, v3, h3, h4, w8])
                              exact ⟨rfl, by first | exact hC | exact SPartsC_keep _ _ hC hb1⟩
                            go_big_quiet_on))))
             refine wpQuiet_nil ?_
             intro w9 hC
             obtain ⟨k0, k1, k2, k3, k4, k5, k6, k7, k8, k9, k10⟩ := hC
             have z0 := cell_lt k0
             have z2 := cell_lt k2
             have z4 := cell_lt k4
             have z6 := cell_lt k6
             have z8 := cell_lt k8
             go_wp2
             go_ret
             exact ⟨rfl, k10⟩)
    · rw [hm] at key
      simp only [Bool.true_and, Bool.and_true, Bool.and_false, Bool.and_self] at key
      obtain ⟨w6, w7⟩ := w4 hm
      clear w4
      cases h3 : (Sp.mk2 n0 n1).within (Sp.mk2 n2 n3)
      · clear w5
        repeat (first
          | go_big_quiet_skip
          | (go_big_quiet_want
             first
               | (refine quiet_load_Sp rfl rfl (fun w' hC => by obtain ⟨k0, k1, k2, k3, k4, k5, k6, k7, k8, k9, k10⟩ := hC; first | exact ⟨k0, k1⟩ | exact ⟨k2, k3⟩ | exact ⟨k4, k5⟩ | exact ⟨k6, k7⟩ | exact ⟨k8, k9⟩) ?_
                  simp only [Act.put, List.setIfInBounds_toArray, List.set_cons_succ, List.set_cons_zero]
                  go_big_quiet_on)
               | (refine quiet_load_W rfl rfl (fun w' hC => by obtain ⟨k0, k1, k2, k3, k4, k5, k6, k7, k8, k9, k10⟩ := hC; first | exact k0 | exact k1 | exact k2 | exact k3 | exact k4 | exact k5 | exact k6 | exact k7 | exact k8 | exact k9) ?_
                  simp only [Act.put, List.setIfInBounds_toArray, List.set_cons_succ, List.set_cons_zero]
                  go_big_quiet_on)
               | (go_big_quiet_op
                  first
                    | go_big_quiet_on
                    | (apply Exists.intro
                       refine ⟨fun w' hC => ?_, ?_⟩
                       · (first | (go_at_call 21; (with_reducible refine (sall_c _).mono ?_); rintro e w1 ⟨rfl, hb1⟩) | (go_at_call 11; (with_reducible refine (shas_c' _ _ _ _).mono ?_); rintro e w1 ⟨rfl, hb1⟩) | (go_at_call 16; (with_reducible refine (swithin_c' _ _ _ _ _).mono ?_); rintro e w1 ⟨rfl, hb1⟩))
                         (try simp only [Sp.eta, h1, h2, xa, v1, v2, v3, key, w6, w7, h3])
                         exact ⟨rfl, by first | exact hC | exact SPartsC_keep _ _ hC hb1⟩
                       go_big_quiet_on))))
        refine wpQuiet_nil ?_
        intro w9 hC
        obtain ⟨k0, k1, k2, k3, k4, k5, k6, k7, k8, k9, k10⟩ := hC
        have z0 := cell_lt k0
        have z2 := cell_lt k2
        have z4 := cell_lt k4
        have z6 := cell_lt k6
        have z8 := cell_lt k8
        go_wp2
        go_ret
        exact ⟨rfl, k10⟩
      · cases h4 : (Sp.mk2 n2 n3).within (Sp.mk2 n4 n5)
        · clear w5
          repeat (first
            | go_big_quiet_skip
            | (go_big_quiet_want
               first
                 | (refine quiet_load_Sp rfl rfl (fun w' hC => by obtain ⟨k0, k1, k2, k3, k4, k5, k6, k7, k8, k9, k10⟩ := hC; first | exact ⟨k0, k1⟩ | exact ⟨k2, k3⟩ | exact ⟨k4, k5⟩ | exact ⟨k6, k7⟩ | exact ⟨k8, k9⟩) ?_
                    simp only [Act.put, List.setIfInBounds_toArray, List.set_cons_succ, List.set_cons_zero]
                    go_big_quiet_on)
                 | (refine quiet_load_W rfl rfl (fun w' hC => by obtain ⟨k0, k1, k2, k3, k4, k5, k6, k7, k8, k9, k10⟩ := hC; first | exact k0 | exact k1 | exact k2 | exact k3 | exact k4 | exact k5 | exact k6 | exact k7 | exact k8 | exact k9) ?_
                    simp only [Act.put, List.setIfInBounds_toArray, List.set_cons_succ, List.set_cons_zero]
                    go_big_quiet_on)
                 | (go_big_quiet_op
                    first
                      | go_big_quiet_on
                      | (apply Exists.intro
                         refine ⟨fun w' hC => ?_, ?_⟩
                         · (first | (go_at_call 21; (with_reducible refine (sall_c _).mono ?_); rintro e w1 ⟨rfl, hb1⟩) | (go_at_call 11; (with_reducible refine (shas_c' _ _ _ _).mono ?_); rintro e w1 ⟨rfl, hb1⟩) | (go_at_call 16; (with_reducible refine (swithin_c' _ _ _ _ _).mono ?_); rintro e w1 ⟨rfl, hb1⟩))
                           (try simp only [Sp.eta, h1, h2, xa, v1, v2, v3, key, w6, w7, h3, h4])
                           exact ⟨rfl, by first | exact hC | exact SPartsC_keep _ _ hC hb1⟩
                         go_big_quiet_on))))
          refine wpQuiet_nil ?_
          intro w9 hC
          obtain ⟨k0, k1, k2, k3, k4, k5, k6, k7, k8, k9, k10⟩ := hC
          have z0 := cell_lt k0
          have z2 := cell_lt k2
          have z4 := cell_lt k4
          have z6 := cell_lt k6
          have z8 := cell_lt k8
          go_wp2
          go_ret
          exact ⟨rfl, k10⟩
        · have w8 := w5 h3 h4
          clear w5
          repeat (first
            | go_big_quiet_skip
            | (go_big_quiet_want
               first
                 | (refine quiet_load_Sp rfl rfl (fun w' hC => by obtain ⟨k0, k1, k2, k3, k4, k5, k6, k7, k8, k9, k10⟩ := hC; first | exact ⟨k0, k1⟩ | exact ⟨k2, k3⟩ | exact ⟨k4, k5⟩ | exact ⟨k6, k7⟩ | exact ⟨k8, k9⟩) ?_
                    simp only [Act.put, List.setIfInBounds_toArray, List.set_cons_succ, List.set_cons_zero]
                    go_big_quiet_on)
                 | (refine quiet_load_W rfl rfl (fun w' hC => by obtain ⟨k0, k1, k2, k3, k4, k5, k6, k7, k8, k9, k10⟩ := hC; first | exact k0 | exact k1 | exact k2 | exact k3 | exact k4 | exact k5 | exact k6 | exact k7 | exact k8 | exact k9) ?_
                    simp only [Act.put, List.setIfInBounds_toArray, List.set_cons_succ, List.set_cons_zero]
                    go_big_quiet_on)
                 | (go_big_quiet_op
                    first
                      | go_big_quiet_on
                      | (apply Exists.intro
                         refine ⟨fun w' hC => ?_, ?_⟩
                         · (first | (go_at_call 21; (with_reducible refine (sall_c _).mono ?_); rintro e w1 ⟨rfl, hb1⟩) | (go_at_call 11; (with_reducible refine (shas_c' _ _ _ _).mono ?_); rintro e w1 ⟨rfl, hb1⟩) | (go_at_call 16; (with_reducible refine (swithin_c' _ _ _ _ _).mono ?_); rintro e w1 ⟨rfl, hb1⟩))
                           (try simp only [Sp.eta, h1, h2, xa, v1, v2, v3, key, w6, w7, h3, h4, w8])
                           exact ⟨rfl, by first | exact hC | exact SPartsC_keep _ _ hC hb1⟩
                         go_big_quiet_on))))
          refine wpQuiet_nil ?_
          intro w9 hC
          obtain ⟨k0, k1, k2, k3, k4, k5, k6, k7, k8, k9, k10⟩ := hC
          have z0 := cell_lt k0
          have z2 := cell_lt k2
          have z4 := cell_lt k4
          have z6 := cell_lt k6
          have z8 := cell_lt k8
          go_wp2
          go_ret
          exact ⟨rfl, k10⟩

end Hk
