/- The reference of tnums: Has; old memory is as it was. No condition. -/
import Derived.Test.YtigpljbfdkpopaaProg
import Derived.Test.YtigpljbfdkpopaaWd
import Derived.Test.YtigpljbfdkpopaaTn
import Derived.Test.YtigpljbfdkpopaaCr1
import Derived.Test.YtigpljbfdkpopaaCr2
namespace Hk
open Go Go.RowKit Go.Proofs
set_option linter.unusedSimpArgs false
set_option linter.unusedVariables false
set_option maxRecDepth 100000
theorem r_has_c (t : Tn) (n : BitVec 64) (w : World) : Calls Try.prog 24 #[.agg #[.int .u64 (N t.v), .int .u64 (N t.m)], .int .u64 (N n)] w fun e w' => e = .returned (.bool (t.has n)) ∧ Below w.heap.size w w' := by
  have key : (∀ j, j < 64 → (!bt t.m j && (bt t.v j != bt n j)) = false) → t.has n = t.right
  := fun h => by
    cases hr : t.right
    · unfold Tn.has; rw [hr]; rfl
    · rw [Tn.has_iff]; intro i hi
      have h1 := h i hi
      have h2 := (Tn.right_iff t).1 hr i hi
      revert h1 h2
      cases bt t.m i <;> cases bt t.v i <;> cases bt n i <;> decide
  have key2 : ∀ j, j < 64 → (!bt t.m j && (bt t.v j != bt n j)) = true → t.has n = false
  := fun j hj h => by
    cases hr : t.has n
    · rfl
    · have h1 := (Tn.has_iff t n).1 hr j hj
      revert h h1
      cases bt t.m j <;> cases bt t.v j <;> cases bt n j <;> decide
  have K1 := Lib.hid key
  have K2 := Lib.hid key2
  clear key key2
  go_enter Try.func24, Try.ntmps24
  go_wp2_with fail
  go_loop [5] (fun i => ∃ k : Nat, k ≤ 64 ∧ i = .int .i64 k ∧ Hid (∀ j, j < k → (!bt t.m j && (bt t.v j != bt n j)) = false)) (fun i => 64 - (intOf i).toNat)
  case atStart => exact ⟨0, by omega, rfl, fun j hj => by omega⟩
  case round =>
    obtain ⟨k, hk, rfl, HA⟩ := hrel
    by_cases hlt : k < 64
    · cases h0 : bt t.m k <;> cases h1 : bt t.v k <;> cases h2 : bt n k
      all_goals first
        | (have q : (!bt t.m k && (bt t.v k != bt n k)) = false := by simp only [h0, h1, h2]; rfl
           clear q
           go_wp2_with (first | (go_at_call 41; (with_reducible refine (bit_c _ _ _).mono ?_); rintro e w1 ⟨rfl, rfl⟩))
           go_round
           (case rel => exact ⟨k + 1, by omega, by go_num, fun j hj => by
             rcases Nat.lt_or_ge j k with q | q
             · exact HA.out j q
             · obtain rfl : j = k := by omega
               simp [h0, h1, h2]⟩)
           (case measure => simp [intOf]; omega))
        | (have z := K2.out k hlt (by simp only [h0, h1, h2]; rfl)
           have Z := Lib.hid z
           clear z
           go_wp2_with (first | (go_at_call 41; (with_reducible refine (bit_c _ _ _).mono ?_); rintro e w1 ⟨rfl, rfl⟩))
           go_ret
           exact ⟨by rw [Z.out]; rfl, (by repeat' (first | (with_reducible exact Below.refl _ _) | (with_reducible assumption) | (with_reducible refine Below.alloc ?_ ?_ _) | (with_reducible refine Below.setCell ?_ ?_ _) | (with_reducible refine Below.drew ?_) | (with_reducible refine Below.trans ?_ (Below.mono (by assumption) ?_)) | go_size))⟩)
    · go_wp2_with (first | (go_at_call 23; (with_reducible refine (r_right_c ⟨_, _⟩ _).mono ?_); rintro e w1 ⟨rfl, hb1⟩; obtain ⟨hc1, hf1, hz1⟩ := bcell hb1; (try simp only [World.size_alloc, World.size_setCell, World.size_drew] at hc1 hf1 hz1)))
      go_ret
      exact ⟨by rw [K1.out (fun j hj => HA.out j (by omega))]; rfl, (by repeat' (first | (with_reducible exact Below.refl _ _) | (with_reducible assumption) | (with_reducible refine Below.alloc ?_ ?_ _) | (with_reducible refine Below.setCell ?_ ?_ _) | (with_reducible refine Below.drew ?_) | (with_reducible refine Below.trans ?_ (Below.mono (by assumption) ?_)) | go_size))⟩

end Hk
