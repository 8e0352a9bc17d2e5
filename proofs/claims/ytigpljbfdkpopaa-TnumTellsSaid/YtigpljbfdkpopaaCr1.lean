/- The reference of tnums: its bit, and whether a tnum is right; old memory is as it was. No condition. -/
import Derived.Test.YtigpljbfdkpopaaProg
import Derived.Test.YtigpljbfdkpopaaWd
import Derived.Test.YtigpljbfdkpopaaTn
namespace Hk
open Go Go.RowKit Go.Proofs
set_option linter.unusedSimpArgs false
set_option linter.unusedVariables false
set_option maxRecDepth 100000
attribute [go_sem] Tn.eta
theorem bit_c (n : BitVec 64) (k : Nat) (w : World) : Calls Try.prog 41 #[.int .u64 (N n), .int .i64 (k : Int)] w fun e w' => e = .returned (.bool (bt n k)) ∧ w = w' := by
  go_enter Try.func41, Try.ntmps41
  go_wp2
  go_ret
  exact ⟨by simp only [Int.toNat_natCast]; exact congrArg (fun b => Ending.returned (.bool b)) (bit_mod n k), rfl⟩

theorem r_right_c (a : Tn) (w : World) : Calls Try.prog 23 #[.agg #[.int .u64 (N a.v), .int .u64 (N a.m)]] w fun e w' => e = .returned (.bool a.right) ∧ Below w.heap.size w w' := by
  have key : (∀ j, j < 64 → (bt a.v j && bt a.m j) = false) → a.right = true := fun h => (Tn.right_iff a).2 h
  have key2 : ∀ j, j < 64 → (bt a.v j && bt a.m j) = true → a.right = false := fun j hj h => by
    cases hr : a.right
    · rfl
    · rw [(Tn.right_iff a).1 hr j hj] at h; cases h
  have K1 := Lib.hid key
  have K2 := Lib.hid key2
  clear key key2
  go_enter Try.func23, Try.ntmps23
  go_wp2_with fail
  go_loop [3] (fun i => ∃ k : Nat, k ≤ 64 ∧ i = .int .i64 k ∧ Hid (∀ j, j < k → (bt a.v j && bt a.m j) = false)) (fun i => 64 - (intOf i).toNat)
  case atStart => exact ⟨0, by omega, rfl, fun j hj => by omega⟩
  case round =>
    obtain ⟨k, hk, rfl, HA⟩ := hrel
    by_cases hlt : k < 64
    · cases h0 : bt a.v k <;> cases h1 : bt a.m k
      case true.true =>
        go_wp2_with (first | (go_at_call 41; (with_reducible refine (bit_c _ _ _).mono ?_); rintro e w1 ⟨rfl, rfl⟩))
        go_ret
        exact ⟨by rw [K2.out k hlt (by rw [h0, h1]; rfl)]; rfl, (by repeat' (first | (with_reducible exact Below.refl _ _) | (with_reducible assumption) | (with_reducible refine Below.alloc ?_ ?_ _) | (with_reducible refine Below.setCell ?_ ?_ _) | (with_reducible refine Below.drew ?_) | (with_reducible refine Below.trans ?_ (Below.mono (by assumption) ?_)) | go_size))⟩
      all_goals
        go_wp2_with (first | (go_at_call 41; (with_reducible refine (bit_c _ _ _).mono ?_); rintro e w1 ⟨rfl, rfl⟩))
        go_round
        case rel => exact ⟨k + 1, by omega, by go_num, fun j hj => by
          rcases Nat.lt_or_ge j k with q | q
          · exact HA.out j q
          · obtain rfl : j = k := by omega
            simp [h0, h1]⟩
        case measure => simp [intOf]; omega
    · go_wp2
      go_ret
      exact ⟨by rw [K1.out (fun j hj => HA.out j (by omega))]; rfl, (by repeat' (first | (with_reducible exact Below.refl _ _) | (with_reducible assumption) | (with_reducible refine Below.alloc ?_ ?_ _) | (with_reducible refine Below.setCell ?_ ?_ _) | (with_reducible refine Below.drew ?_) | (with_reducible refine Below.trans ?_ (Below.mono (by assumption) ?_)) | go_size))⟩

end Hk
