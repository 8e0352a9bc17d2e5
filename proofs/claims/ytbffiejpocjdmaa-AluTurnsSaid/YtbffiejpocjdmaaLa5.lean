/- The statements AluSwaps and AluTurns of the Go text: they return true, and old memory is as it was. No condition. -/
import Derived.Test.YtbffiejpocjdmaaProg
import Derived.Test.YtbffiejpocjdmaaWd
import Derived.Test.YtbffiejpocjdmaaLa1
import Derived.Test.YtbffiejpocjdmaaSw1
import Derived.Test.YtbffiejpocjdmaaSw2
import Derived.Test.YtbffiejpocjdmaaRc3
namespace Hk
open Go Go.RowKit Go.Proofs
set_option linter.unusedSimpArgs false
set_option linter.unusedVariables false
set_option maxRecDepth 100000
attribute [go_sem] Alu.val_some Alu.err_some
theorem aluSwaps_walk (t : Bool) (k : Int) (hk : -9223372036854775808 ≤ k ∧ k ≤ 9223372036854775807) (a : BitVec 64) (w : World) : Calls Try.prog 8 #[.bool (t), .int .i64 k, .int .u64 (N a)] w fun e w' => e = .returned (.bool true) ∧ Below w.heap.size w w' := by
  clear hk
  go_enter Try.func8, Try.ntmps8
  go_wp2_with (first | (go_at_call 10; (with_reducible refine (ado_c _ _ _ _ _ _).mono ?_); rintro e w1 ⟨rfl, rfl⟩) | (go_at_call 12; (with_reducible refine (ashown_c _).mono ?_); rintro e w1 ⟨rfl, rfl⟩) | (go_at_call 13; (with_reducible refine (swap_c _ _ _ _).mono ?_); rintro e w1 ⟨rfl, hb1⟩; obtain ⟨hc1, hf1, hz1⟩ := bcell hb1; (try simp only [World.size_alloc, World.size_setCell, World.size_drew] at hc1 hf1 hz1)) | (go_at_call 14; (with_reducible refine (rswap_c _ _ _ _).mono ?_); rintro e w1 ⟨rfl, hb1⟩; obtain ⟨hc1, hf1, hz1⟩ := bcell hb1; (try simp only [World.size_alloc, World.size_setCell, World.size_drew] at hc1 hf1 hz1)) | (go_at_call 15; (with_reducible refine (sign_c _ _ _).mono ?_); rintro e w1 ⟨rfl, rfl⟩) | (go_at_call 16; (with_reducible refine (rsign_c _ _ _).mono ?_); rintro e w1 ⟨rfl, rfl⟩))
  go_ret
  exact ⟨rfl, (by repeat' (first | (with_reducible exact Below.refl _ _) | (with_reducible assumption) | (with_reducible refine Below.alloc ?_ ?_ _) | (with_reducible refine Below.setCell ?_ ?_ _) | (with_reducible refine Below.drew ?_) | (with_reducible refine below_dn ?_ _) | (with_reducible refine Below.trans ?_ (Below.mono (by assumption) ?_)) | go_size))⟩

theorem aluTurns_walk (a b : BitVec 64) (k : Int) (hk : 0 ≤ k ∧ k ≤ 255) (w : World) : Calls Try.prog 9 #[.int .u64 (N a), .int .u64 (N b), .int .u8 k] w fun e w' => e = .returned (.bool true) ∧ Below w.heap.size w w' := by
  have h0 : k % 3 = 0 ∨ k % 3 = 1 ∨ k % 3 = 2 := by omega
  have h1 : k.tmod 3 = k % 3 := by rw [Int.tmod_eq_emod_of_nonneg hk.1]
  have h2 : 0 ≤ k := hk.1
  have h3 : k ≤ 255 := hk.2
  have e1 : Alu.go 0 true 0 a b = some (a + b) := rfl
  have e2 : Alu.go 16 true 0 (a + b) b = some a := congrArg some (BitVec.add_sub_cancel a b)
  have e3 : Alu.go 128 true 0 b 0#64 = some (-b) := rfl
  have e4 : Alu.go 0 true 0 (a + b) (-b) = some a := congrArg some (by rw [← BitVec.sub_eq_add_neg, BitVec.add_sub_cancel])
  clear hk
  rcases h0 with h | h | h
  · have s1 : Alu.swap true 16 a = some (Alu.turn 2 a) := rfl
    have s2 : Alu.swap true 16 (Alu.turn 2 a) = some (Alu.lowb 2 a) := congrArg some (Alu.turn_turn 2 (by omega) (by omega) a)
    have s3 : Alu.swap false 16 a = some (Alu.lowb 2 a) := rfl
    generalize Alu.turn 2 a = p at s1 s2
    generalize Alu.lowb 2 a = q at s2 s3
    rw [h] at h1
    go_enter Try.func9, Try.ntmps9
    go_wp2_with (first | (go_at_call 10; (with_reducible refine (ado_c _ _ _ _ _ _).mono ?_); rintro e w1 ⟨rfl, rfl⟩) | (go_at_call 12; (with_reducible refine (ashown_c _).mono ?_); rintro e w1 ⟨rfl, rfl⟩) | (go_at_call 13; (with_reducible refine (swap_c _ _ _ _).mono ?_); rintro e w1 ⟨rfl, hb1⟩; obtain ⟨hc1, hf1, hz1⟩ := bcell hb1; (try simp only [World.size_alloc, World.size_setCell, World.size_drew] at hc1 hf1 hz1)) | (go_at_call 14; (with_reducible refine (rswap_c _ _ _ _).mono ?_); rintro e w1 ⟨rfl, hb1⟩; obtain ⟨hc1, hf1, hz1⟩ := bcell hb1; (try simp only [World.size_alloc, World.size_setCell, World.size_drew] at hc1 hf1 hz1)) | (go_at_call 15; (with_reducible refine (sign_c _ _ _).mono ?_); rintro e w1 ⟨rfl, rfl⟩) | (go_at_call 16; (with_reducible refine (rsign_c _ _ _).mono ?_); rintro e w1 ⟨rfl, rfl⟩))
    go_ret
    exact ⟨rfl, (by repeat' (first | (with_reducible exact Below.refl _ _) | (with_reducible assumption) | (with_reducible refine Below.alloc ?_ ?_ _) | (with_reducible refine Below.setCell ?_ ?_ _) | (with_reducible refine Below.drew ?_) | (with_reducible refine below_dn ?_ _) | (with_reducible refine Below.trans ?_ (Below.mono (by assumption) ?_)) | go_size))⟩
  · have s1 : Alu.swap true 32 a = some (Alu.turn 4 a) := rfl
    have s2 : Alu.swap true 32 (Alu.turn 4 a) = some (Alu.lowb 4 a) := congrArg some (Alu.turn_turn 4 (by omega) (by omega) a)
    have s3 : Alu.swap false 32 a = some (Alu.lowb 4 a) := rfl
    generalize Alu.turn 4 a = p at s1 s2
    generalize Alu.lowb 4 a = q at s2 s3
    rw [h] at h1
    go_enter Try.func9, Try.ntmps9
    go_wp2_with (first | (go_at_call 10; (with_reducible refine (ado_c _ _ _ _ _ _).mono ?_); rintro e w1 ⟨rfl, rfl⟩) | (go_at_call 12; (with_reducible refine (ashown_c _).mono ?_); rintro e w1 ⟨rfl, rfl⟩) | (go_at_call 13; (with_reducible refine (swap_c _ _ _ _).mono ?_); rintro e w1 ⟨rfl, hb1⟩; obtain ⟨hc1, hf1, hz1⟩ := bcell hb1; (try simp only [World.size_alloc, World.size_setCell, World.size_drew] at hc1 hf1 hz1)) | (go_at_call 14; (with_reducible refine (rswap_c _ _ _ _).mono ?_); rintro e w1 ⟨rfl, hb1⟩; obtain ⟨hc1, hf1, hz1⟩ := bcell hb1; (try simp only [World.size_alloc, World.size_setCell, World.size_drew] at hc1 hf1 hz1)) | (go_at_call 15; (with_reducible refine (sign_c _ _ _).mono ?_); rintro e w1 ⟨rfl, rfl⟩) | (go_at_call 16; (with_reducible refine (rsign_c _ _ _).mono ?_); rintro e w1 ⟨rfl, rfl⟩))
    go_ret
    exact ⟨rfl, (by repeat' (first | (with_reducible exact Below.refl _ _) | (with_reducible assumption) | (with_reducible refine Below.alloc ?_ ?_ _) | (with_reducible refine Below.setCell ?_ ?_ _) | (with_reducible refine Below.drew ?_) | (with_reducible refine below_dn ?_ _) | (with_reducible refine Below.trans ?_ (Below.mono (by assumption) ?_)) | go_size))⟩
  · have s1 : Alu.swap true 64 a = some (Alu.turn 8 a) := rfl
    have s2 : Alu.swap true 64 (Alu.turn 8 a) = some (Alu.lowb 8 a) := congrArg some (Alu.turn_turn 8 (by omega) (by omega) a)
    have s3 : Alu.swap false 64 a = some (Alu.lowb 8 a) := rfl
    generalize Alu.turn 8 a = p at s1 s2
    generalize Alu.lowb 8 a = q at s2 s3
    rw [h] at h1
    go_enter Try.func9, Try.ntmps9
    go_wp2_with (first | (go_at_call 10; (with_reducible refine (ado_c _ _ _ _ _ _).mono ?_); rintro e w1 ⟨rfl, rfl⟩) | (go_at_call 12; (with_reducible refine (ashown_c _).mono ?_); rintro e w1 ⟨rfl, rfl⟩) | (go_at_call 13; (with_reducible refine (swap_c _ _ _ _).mono ?_); rintro e w1 ⟨rfl, hb1⟩; obtain ⟨hc1, hf1, hz1⟩ := bcell hb1; (try simp only [World.size_alloc, World.size_setCell, World.size_drew] at hc1 hf1 hz1)) | (go_at_call 14; (with_reducible refine (rswap_c _ _ _ _).mono ?_); rintro e w1 ⟨rfl, hb1⟩; obtain ⟨hc1, hf1, hz1⟩ := bcell hb1; (try simp only [World.size_alloc, World.size_setCell, World.size_drew] at hc1 hf1 hz1)) | (go_at_call 15; (with_reducible refine (sign_c _ _ _).mono ?_); rintro e w1 ⟨rfl, rfl⟩) | (go_at_call 16; (with_reducible refine (rsign_c _ _ _).mono ?_); rintro e w1 ⟨rfl, rfl⟩))
    go_ret
    exact ⟨rfl, (by repeat' (first | (with_reducible exact Below.refl _ _) | (with_reducible assumption) | (with_reducible refine Below.alloc ?_ ?_ _) | (with_reducible refine Below.setCell ?_ ?_ _) | (with_reducible refine Below.drew ?_) | (with_reducible refine below_dn ?_ _) | (with_reducible refine Below.trans ?_ (Below.mono (by assumption) ?_)) | go_size))⟩

end Hk
