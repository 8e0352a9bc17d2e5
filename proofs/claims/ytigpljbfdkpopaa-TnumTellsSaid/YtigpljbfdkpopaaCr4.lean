/- The reference of tnums: Within; old memory is as it was. No condition. -/
import Derived.Test.YtigpljbfdkpopaaProg
import Derived.Test.YtigpljbfdkpopaaWd
import Derived.Test.YtigpljbfdkpopaaTn
import Derived.Test.YtigpljbfdkpopaaCr1
import Derived.Test.YtigpljbfdkpopaaCr2
import Derived.Test.YtigpljbfdkpopaaLd
namespace Hk
open Go Go.RowKit Go.Proofs
set_option linter.unusedSimpArgs false
set_option linter.unusedVariables false
set_option maxRecDepth 100000
def WithinC (a b : Tn) (w : World) (w' : World) : Prop := w'.cell? ⟨w.heap.size, 0, none⟩ = some (.int .u64 (N a.v)) ∧ w'.cell? ⟨w.heap.size, 1, none⟩ = some (.int .u64 (N a.m)) ∧ w'.cell? ⟨w.heap.size + 1, 0, none⟩ = some (.int .u64 (N b.v)) ∧ w'.cell? ⟨w.heap.size + 1, 1, none⟩ = some (.int .u64 (N b.m)) ∧ Below w.heap.size w w'
theorem WithinC_keep {a b : Tn} {w : World} (w' w1 : World) (h : WithinC a b w w') (hb : Below w'.heap.size w' w1) : WithinC a b w w1 := by
  obtain ⟨k0, k1, k2, k3, k4⟩ := h
  exact ⟨cell_keep hb k0, cell_keep hb k1, cell_keep hb k2, cell_keep hb k3, below_next k4 hb⟩

set_option maxHeartbeats 4000000 in
theorem r_within_c (a b : Tn) (w : World) : Calls Try.prog 25 #[.agg #[.int .u64 (N a.v), .int .u64 (N a.m)], .agg #[.int .u64 (N b.v), .int .u64 (N b.m)]] w fun e w' => e = .returned (.bool (a.within b)) ∧ Below w.heap.size w w' := by
  have key : (∀ j, j < 64 → (!bt b.m j && (bt a.m j || (bt a.v j != bt b.v j))) = false) → a.within b = (a.right && b.right)
  := fun h => by
    cases ha : a.right
    · unfold Tn.within; rw [ha]; rfl
    · cases hb : b.right
      · unfold Tn.within; rw [hb]; simp
      · rw [Bool.and_self, Tn.within_iff]
        refine ⟨ha, hb, fun i hi hm => ?_⟩
        have h1 := h i hi
        revert h1
        rw [hm]
        cases bt a.m i <;> cases bt a.v i <;> cases bt b.v i <;> decide
  have key2 : ∀ j, j < 64 → (!bt b.m j && (bt a.m j || (bt a.v j != bt b.v j))) = true → a.within b = false
  := fun j hj h => by
    cases hr : a.within b
    · rfl
    · have h1 := ((Tn.within_iff a b).1 hr).2.2 j hj
      revert h h1
      cases bt b.m j <;> cases bt a.m j <;> cases bt a.v j <;> cases bt b.v j <;> decide
  have K1 := Lib.hid key
  have K2 := Lib.hid key2
  clear key key2
  go_enter Try.func25, Try.ntmps25
  go_wp2_with fail
  go_loopw [5] (fun i wr => ∃ k : Nat, k ≤ 64 ∧ i = .int .i64 k ∧ Hid (∀ j, j < k → (!bt b.m j && (bt a.m j || (bt a.v j != bt b.v j))) = false) ∧ WithinC a b w wr) (fun i _ => 64 - (intOf i).toNat)
  case atStart =>
    refine ⟨0, by omega, rfl, (fun j hj => by omega), ?_⟩
    refine ⟨?_, ?_, ?_, ?_, (by repeat' (first | (with_reducible exact Below.refl _ _) | (with_reducible assumption) | (with_reducible refine Below.alloc ?_ ?_ _) | (with_reducible refine Below.setCell ?_ ?_ _) | (with_reducible refine Below.drew ?_) | (with_reducible refine Below.trans ?_ (Below.mono (by assumption) ?_)) | go_size))⟩
    all_goals first | (intro i; simp [*, go_sem, ↓IntWalk.iteOmega]; done) | (simp [*, go_sem, ↓IntWalk.iteOmega]; done)
  case round =>
    obtain ⟨k, hk, rfl, HA, k0, k1, k2, k3, k4⟩ := hrel
    have z0 := cell_lt k0
    have z2 := cell_lt k2
    by_cases hlt : k < 64
    · cases h0 : bt b.m k <;> cases h1 : bt a.m k <;> cases h2 : bt a.v k <;> cases h3 : bt b.v k
      all_goals
        have q : (!bt b.m k && (bt a.m k || (bt a.v k != bt b.v k))) = (!bt b.m k && (bt a.m k || (bt a.v k != bt b.v k))) := rfl
        simp only [h0, h1, h2, h3] at q
        clear q
        go_wp2_with fail
        refine wp_region_class (WithinC a b w) (by kernel_rfl) (by kernel_rfl) ?_ ?_
        · refine ⟨?_, ?_, ?_, ?_, (by repeat' (first | (with_reducible exact Below.refl _ _) | (with_reducible assumption) | (with_reducible refine Below.alloc ?_ ?_ _) | (with_reducible refine Below.setCell ?_ ?_ _) | (with_reducible refine Below.drew ?_) | (with_reducible refine Below.trans ?_ (Below.mono (by assumption) ?_)) | go_size))⟩
          all_goals first | (intro i; simp [*, go_sem, ↓IntWalk.iteOmega]; done) | (simp [*, go_sem, ↓IntWalk.iteOmega]; done)
        intro hN
        repeat (first
          | go_big_quiet_skip
          | (go_big_quiet_want
             first
               | (refine quiet_loadT rfl rfl (fun w' hC => by obtain ⟨k0, k1, k2, k3, k4⟩ := hC; first | exact ⟨k0, k1⟩ | exact ⟨k2, k3⟩) ?_
                  simp only [Act.put, List.setIfInBounds_toArray, List.set_cons_succ, List.set_cons_zero]
                  go_big_quiet_on)
               | (refine quiet_loadW rfl rfl (fun w' hC => by obtain ⟨k0, k1, k2, k3, k4⟩ := hC; first | exact k0 | exact k1 | exact k2 | exact k3) ?_
                  simp only [Act.put, List.setIfInBounds_toArray, List.set_cons_succ, List.set_cons_zero]
                  go_big_quiet_on)
               | (go_big_quiet_op
                  first
                    | go_big_quiet_on
                    | (apply Exists.intro
                       refine ⟨fun w' hC => ?_, ?_⟩
                       · (first | (go_at_call 41; (with_reducible refine (bit_c _ _ _).mono ?_); rintro e w1 ⟨rfl, rfl⟩))
                         (try simp only [h0, h1, h2, h3])
                         exact ⟨rfl, by first | exact hC | exact WithinC_keep _ _ hC hb1⟩
                       go_big_quiet_on))))
        refine wpQuiet_nil ?_
        intro w9 hC
        obtain ⟨k0, k1, k2, k3, k4⟩ := hC
        have z0 := cell_lt k0
        have z2 := cell_lt k2
        first
          | (go_wp2
             go_roundw
             (case rel => exact ⟨k + 1, by omega, by go_num, (fun j hj => by
               rcases Nat.lt_or_ge j k with q | q
               · exact HA.out j q
               · obtain rfl : j = k := by omega
                 simp [h0, h1, h2, h3]), k0, k1, k2, k3, k4⟩)
             (case measure => simp [intOf]; omega))
          | (have z := K2.out k hlt (by simp [h0, h1, h2, h3])
             have Z := Lib.hid z
             clear z
             go_wp2
             go_ret
             exact ⟨by rw [Z.out]; rfl, k4⟩)
    · go_wp2_with (first | (go_at_call 32; (with_reducible refine (r_both_c ⟨_, _⟩ ⟨_, _⟩ _).mono ?_); rintro e w1 ⟨rfl, hb1⟩; obtain ⟨hc1, hf1, hz1⟩ := bcell hb1; (try simp only [World.size_alloc, World.size_setCell, World.size_drew] at hc1 hf1 hz1)))
      go_ret
      exact ⟨by rw [K1.out (fun j hj => HA.out j (by omega))]; rfl, below_next k4 hb1⟩

end Hk
