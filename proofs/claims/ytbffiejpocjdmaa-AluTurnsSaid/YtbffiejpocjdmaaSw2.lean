/- The reference of arithmetic: Swap. No condition but those in each statement. -/
import Derived.Test.YtbffiejpocjdmaaProg
import Derived.Test.YtbffiejpocjdmaaWd
import Derived.Test.YtbffiejpocjdmaaAluSw
import Derived.Test.YtbffiejpocjdmaaRb1
import Derived.Test.YtbffiejpocjdmaaRc1
namespace Hk
open Go Go.RowKit Go.Proofs
set_option linter.unusedSimpArgs false
set_option linter.unusedVariables false
set_option maxRecDepth 100000
theorem rswap_f16 (a : BitVec 64) (w : World) : Calls Try.prog 14 #[.bool (false), .int .i64 16, .int .u64 (N a)] w fun e w' => e = .returned (.tuple #[.int .u64 (N (Alu.val (Alu.swap false 16 a))), .int .i64 (Alu.err (Alu.swap false 16 a))]) ∧ w = w' := by
  have e : Alu.swap false 16 a = some (a % 1#64 <<< 16) := congrArg some (Alu.low_mod 2 (by omega) (by omega) a)
  rw [e, Alu.val_some, Alu.err_some]
  go_enter Try.func14, Try.ntmps14
  go_wp2_with (first | (go_at_call 20; (with_reducible refine (cut_c' _ _ (by omega) (by omega) _).mono ?_); rintro e w1 ⟨rfl, rfl⟩))
  go_ret2
  exact ⟨rfl, rfl⟩

theorem rswap_f32 (a : BitVec 64) (w : World) : Calls Try.prog 14 #[.bool (false), .int .i64 32, .int .u64 (N a)] w fun e w' => e = .returned (.tuple #[.int .u64 (N (Alu.val (Alu.swap false 32 a))), .int .i64 (Alu.err (Alu.swap false 32 a))]) ∧ w = w' := by
  have e : Alu.swap false 32 a = some (a % 1#64 <<< 32) := congrArg some (Alu.low_mod 4 (by omega) (by omega) a)
  rw [e, Alu.val_some, Alu.err_some]
  go_enter Try.func14, Try.ntmps14
  go_wp2_with (first | (go_at_call 20; (with_reducible refine (cut_c' _ _ (by omega) (by omega) _).mono ?_); rintro e w1 ⟨rfl, rfl⟩))
  go_ret2
  exact ⟨rfl, rfl⟩

theorem rswap_f64 (a : BitVec 64) (w : World) : Calls Try.prog 14 #[.bool (false), .int .i64 64, .int .u64 (N a)] w fun e w' => e = .returned (.tuple #[.int .u64 (N (Alu.val (Alu.swap false 64 a))), .int .i64 (Alu.err (Alu.swap false 64 a))]) ∧ w = w' := by
  have e : Alu.swap false 64 a = some a := congrArg some (Alu.low_8 a)
  rw [e, Alu.val_some, Alu.err_some]
  go_enter Try.func14, Try.ntmps14
  go_wp2_with (first | (go_at_call 20; (with_reducible refine (cut64_c _ _).mono ?_); rintro e w1 ⟨rfl, rfl⟩))
  go_ret2
  exact ⟨rfl, rfl⟩

theorem rswap_none (k : Int) (h1 : ¬ k = 16) (h2 : ¬ k = 32) (h3 : ¬ k = 64) (t : Bool) (a : BitVec 64) (w : World) : Calls Try.prog 14 #[.bool (t), .int .i64 k, .int .u64 (N a)] w fun e w' => e = .returned (.tuple #[.int .u64 (N (Alu.val (Alu.swap t k a))), .int .i64 (Alu.err (Alu.swap t k a))]) ∧ w = w' := by
  have d1 : (k != 16) = true := by simpa using h1
  have d2 : (k != 32) = true := by simpa using h2
  have d3 : (k != 64) = true := by simpa using h3
  rw [Alu.swap_none t k a h1 h2 h3, Alu.val_none, Alu.err_none]
  go_enter Try.func14, Try.ntmps14
  go_wp2
  go_ret2
  exact ⟨rfl, rfl⟩

theorem rswap_t16 (a : BitVec 64) (w : World) : Calls Try.prog 14 #[.bool (true), .int .i64 16, .int .u64 (N a)] w fun e w' => e = .returned (.tuple #[.int .u64 (N (Alu.val (Alu.swap true 16 a))), .int .i64 (Alu.err (Alu.swap true 16 a))]) ∧ w = w' := by
  have e : Alu.swap true 16 a = some (Alu.turn 2 a) := rfl
  rw [e, Alu.val_some, Alu.err_some]
  have s0 : Alu.rv 2 0#64 (a % 65536#64) = Alu.turn 2 a := by rw [← Alu.turn_low 2 (by omega) (by omega) a, Alu.low_mod 2 (by omega) (by omega) a]; rfl
  have S0 := Lib.hid s0
  clear s0 e
  generalize hR : Alu.turn 2 a = R at S0
  go_enter Try.func14, Try.ntmps14
  go_wp2_with (first | (go_at_call 20; (with_reducible refine (cut_c' _ _ (by omega) (by omega) _).mono ?_); rintro e w1 ⟨rfl, rfl⟩) | (go_at_call 20; (with_reducible refine (cut64_c _ _).mono ?_); rintro e w1 ⟨rfl, rfl⟩))
  go_loop [8, 9, 10] (fun x o i => ∃ j : Nat, j ≤ 2 ∧ i = .int .i64 j ∧ ∃ p q : BitVec 64, x = .int .u64 (N q) ∧ o = .int .u64 (N p) ∧ Hid (Alu.rv (2 - j) p q = R)) (fun _ _ i => 2 - (intOf i).toNat)
  case atStart => exact ⟨0, by omega, rfl, 0#64, a % 65536#64, rfl, rfl, S0⟩
  case round =>
    obtain ⟨j, hj, rfl, p, q, rfl, rfl, H⟩ := hrel
    by_cases hlt : j < 2
    · obtain ⟨m, hm⟩ : ∃ m, 2 - j = m + 1 := ⟨2 - j - 1, by omega⟩
      have h1 : Alu.rv m (p * 256#64 + q % 256#64) (q / 256#64) = R := by have := H.out; rwa [hm, Alu.rv] at this
      have H1 := Lib.hid h1
      have h2 : 2 - (j + 1) = m := by omega
      have hm2 := Lib.hid h2
      clear H hm h1 h2
      go_wp2
      go_round
      case rel => exact ⟨j + 1, by omega, by go_num, _, _, rfl, rfl, by rw [hm2.out]; exact H1⟩
      case measure => simp [intOf]; omega
    · obtain rfl : j = 2 := by omega
      have H1 := H.out
      simp only [Nat.sub_self, Alu.rv] at H1
      subst H1
      go_wp2
      go_ret2
      exact ⟨rfl, rfl⟩

theorem rswap_t32 (a : BitVec 64) (w : World) : Calls Try.prog 14 #[.bool (true), .int .i64 32, .int .u64 (N a)] w fun e w' => e = .returned (.tuple #[.int .u64 (N (Alu.val (Alu.swap true 32 a))), .int .i64 (Alu.err (Alu.swap true 32 a))]) ∧ w = w' := by
  have e : Alu.swap true 32 a = some (Alu.turn 4 a) := rfl
  rw [e, Alu.val_some, Alu.err_some]
  have s0 : Alu.rv 4 0#64 (a % 4294967296#64) = Alu.turn 4 a := by rw [← Alu.turn_low 4 (by omega) (by omega) a, Alu.low_mod 4 (by omega) (by omega) a]; rfl
  have S0 := Lib.hid s0
  clear s0 e
  generalize hR : Alu.turn 4 a = R at S0
  go_enter Try.func14, Try.ntmps14
  go_wp2_with (first | (go_at_call 20; (with_reducible refine (cut_c' _ _ (by omega) (by omega) _).mono ?_); rintro e w1 ⟨rfl, rfl⟩) | (go_at_call 20; (with_reducible refine (cut64_c _ _).mono ?_); rintro e w1 ⟨rfl, rfl⟩))
  go_loop [8, 9, 10] (fun x o i => ∃ j : Nat, j ≤ 4 ∧ i = .int .i64 j ∧ ∃ p q : BitVec 64, x = .int .u64 (N q) ∧ o = .int .u64 (N p) ∧ Hid (Alu.rv (4 - j) p q = R)) (fun _ _ i => 4 - (intOf i).toNat)
  case atStart => exact ⟨0, by omega, rfl, 0#64, a % 4294967296#64, rfl, rfl, S0⟩
  case round =>
    obtain ⟨j, hj, rfl, p, q, rfl, rfl, H⟩ := hrel
    by_cases hlt : j < 4
    · obtain ⟨m, hm⟩ : ∃ m, 4 - j = m + 1 := ⟨4 - j - 1, by omega⟩
      have h1 : Alu.rv m (p * 256#64 + q % 256#64) (q / 256#64) = R := by have := H.out; rwa [hm, Alu.rv] at this
      have H1 := Lib.hid h1
      have h2 : 4 - (j + 1) = m := by omega
      have hm2 := Lib.hid h2
      clear H hm h1 h2
      go_wp2
      go_round
      case rel => exact ⟨j + 1, by omega, by go_num, _, _, rfl, rfl, by rw [hm2.out]; exact H1⟩
      case measure => simp [intOf]; omega
    · obtain rfl : j = 4 := by omega
      have H1 := H.out
      simp only [Nat.sub_self, Alu.rv] at H1
      subst H1
      go_wp2
      go_ret2
      exact ⟨rfl, rfl⟩

theorem rswap_t64 (a : BitVec 64) (w : World) : Calls Try.prog 14 #[.bool (true), .int .i64 64, .int .u64 (N a)] w fun e w' => e = .returned (.tuple #[.int .u64 (N (Alu.val (Alu.swap true 64 a))), .int .i64 (Alu.err (Alu.swap true 64 a))]) ∧ w = w' := by
  have e : Alu.swap true 64 a = some (Alu.turn 8 a) := rfl
  rw [e, Alu.val_some, Alu.err_some]
  have s0 : Alu.rv 8 0#64 (a) = Alu.turn 8 a := rfl
  have S0 := Lib.hid s0
  clear s0 e
  generalize hR : Alu.turn 8 a = R at S0
  go_enter Try.func14, Try.ntmps14
  go_wp2_with (first | (go_at_call 20; (with_reducible refine (cut_c' _ _ (by omega) (by omega) _).mono ?_); rintro e w1 ⟨rfl, rfl⟩) | (go_at_call 20; (with_reducible refine (cut64_c _ _).mono ?_); rintro e w1 ⟨rfl, rfl⟩))
  go_loop [8, 9, 10] (fun x o i => ∃ j : Nat, j ≤ 8 ∧ i = .int .i64 j ∧ ∃ p q : BitVec 64, x = .int .u64 (N q) ∧ o = .int .u64 (N p) ∧ Hid (Alu.rv (8 - j) p q = R)) (fun _ _ i => 8 - (intOf i).toNat)
  case atStart => exact ⟨0, by omega, rfl, 0#64, a, rfl, rfl, S0⟩
  case round =>
    obtain ⟨j, hj, rfl, p, q, rfl, rfl, H⟩ := hrel
    by_cases hlt : j < 8
    · obtain ⟨m, hm⟩ : ∃ m, 8 - j = m + 1 := ⟨8 - j - 1, by omega⟩
      have h1 : Alu.rv m (p * 256#64 + q % 256#64) (q / 256#64) = R := by have := H.out; rwa [hm, Alu.rv] at this
      have H1 := Lib.hid h1
      have h2 : 8 - (j + 1) = m := by omega
      have hm2 := Lib.hid h2
      clear H hm h1 h2
      go_wp2
      go_round
      case rel => exact ⟨j + 1, by omega, by go_num, _, _, rfl, rfl, by rw [hm2.out]; exact H1⟩
      case measure => simp [intOf]; omega
    · obtain rfl : j = 8 := by omega
      have H1 := H.out
      simp only [Nat.sub_self, Alu.rv] at H1
      subst H1
      go_wp2
      go_ret2
      exact ⟨rfl, rfl⟩

theorem rswap_c (t : Bool) (k : Int) (a : BitVec 64) (w : World) : Calls Try.prog 14 #[.bool (t), .int .i64 k, .int .u64 (N a)] w fun e w' => e = .returned (.tuple #[.int .u64 (N (Alu.val (Alu.swap t k a))), .int .i64 (Alu.err (Alu.swap t k a))]) ∧ Below w.heap.size w w' := by
  have lift : (Calls Try.prog 14 #[.bool t, .int .i64 k, .int .u64 (N a)] w fun e w' => e = .returned (.tuple #[.int .u64 (N (Alu.val (Alu.swap t k a))), .int .i64 (Alu.err (Alu.swap t k a))]) ∧ w = w') → Calls Try.prog 14 #[.bool t, .int .i64 k, .int .u64 (N a)] w fun e w' => e = .returned (.tuple #[.int .u64 (N (Alu.val (Alu.swap t k a))), .int .i64 (Alu.err (Alu.swap t k a))]) ∧ Below w.heap.size w w' :=
    fun h => h.mono fun _ _ ⟨a, b⟩ => ⟨a, b ▸ Below.refl _ _⟩
  apply lift
  by_cases h1 : k = 16
  · subst h1; cases t
    · exact rswap_f16 a w
    · exact rswap_t16 a w
  by_cases h2 : k = 32
  · subst h2; cases t
    · exact rswap_f32 a w
    · exact rswap_t32 a w
  by_cases h3 : k = 64
  · subst h3; cases t
    · exact rswap_f64 a w
    · exact rswap_t64 a w
  exact rswap_none k h1 h2 h3 t a w

end Hk
