/- The statement AluMoves of the Go text: it returns true, and old memory is as it was. No condition. -/
import Derived.Test.YtbffiejpocjdmaaProg
import Derived.Test.YtbffiejpocjdmaaWd
import Derived.Test.YtbffiejpocjdmaaAluLaw
import Derived.Test.YtbffiejpocjdmaaAluMv
import Derived.Test.YtbffiejpocjdmaaLa1
namespace Hk
open Go Go.RowKit Go.Proofs
set_option linter.unusedSimpArgs false
set_option linter.unusedVariables false
set_option maxRecDepth 100000
attribute [go_sem] Alu.val_some Alu.err_some
theorem aluMoves_walk (wd : Bool) (a : BitVec 64) (k : Int) (hk : 0 ≤ k ∧ k ≤ 255) (w : World) : Calls Try.prog 7 #[.bool (wd), .int .u64 (N a), .int .u8 k] w fun e w' => e = .returned (.bool true) ∧ Below w.heap.size w w' := by
  have h2 : 0 ≤ k := hk.1
  have h3 : k ≤ 255 := hk.2
  clear hk
  cases wd
  · have hn : (BitVec.ofInt 64 (k % 32)).toNat = (k % 32).toNat := by rw [BitVec.toNat_ofInt]; omega
    obtain ⟨n, en⟩ : ∃ n : BitVec 64, n = BitVec.ofInt 64 (k % 32) := ⟨_, rfl⟩
    have hw : k % 32 = N n := by rw [en]; unfold N; rw [hn]; omega
    have hl : n.toNat < 32 := by rw [en, hn]; omega
    obtain ⟨x, y, s, up, left, e1, e2, e3, e4, e5, e6, e7, e8⟩ := Alu.moves_n a n hl
    have h1 : k.tmod 32 = N n := by rw [Int.tmod_eq_emod_of_nonneg h2, hw]
    have hN : N n < 32 := by unfold N; omega
    have hz : Z n = N n := by unfold Z N; rw [BitVec.toInt_eq_toNat_of_lt (by omega)]
    have h5 : 0 ≤ 32 - N n := by omega
    have h6 : (32 - N n).toNat = 32 - n.toNat := by unfold N; omega
    have h7 : wrap64 (32 - N n) = 32 - N n := by have := N_nonneg n; unfold wrap64; omega
    have hA : IntKind.u64.wrap (N 1#64 * 2 ^ (32 - n.toNat)) = N (1#64 <<< (32 - n.toNat)) := by have := N_shl 1#64 (32 - n.toNat); rwa [Nat.min_eq_left (by omega)] at this
    subst e3
    clear en hn hw hl
    go_enter Try.func7, Try.ntmps7
    go_wp2_with (first | (go_at_call 10; (with_reducible refine (ado_c _ _ _ _ _ _).mono ?_); rintro e w1 ⟨rfl, rfl⟩) | (go_at_call 12; (with_reducible refine (ashown_c _).mono ?_); rintro e w1 ⟨rfl, rfl⟩))
    go_ret
    exact ⟨rfl, (by repeat' (first | (with_reducible exact Below.refl _ _) | (with_reducible assumption) | (with_reducible refine Below.alloc ?_ ?_ _) | (with_reducible refine Below.setCell ?_ ?_ _) | (with_reducible refine Below.drew ?_) | (with_reducible refine Below.trans ?_ (Below.mono (by assumption) ?_)) | go_size))⟩
  · have hn : (BitVec.ofInt 64 (k % 64)).toNat = (k % 64).toNat := by rw [BitVec.toNat_ofInt]; omega
    obtain ⟨n, en⟩ : ∃ n : BitVec 64, n = BitVec.ofInt 64 (k % 64) := ⟨_, rfl⟩
    have hw : k % 64 = N n := by rw [en]; unfold N; rw [hn]; omega
    have hl : n.toNat < 64 := by rw [en, hn]; omega
    obtain ⟨x, y, s, up, left, e1, e2, e3, e4, e5, e6, e7, e8⟩ := Alu.moves_w a n hl
    have h1 : k.tmod 64 = N n := by rw [Int.tmod_eq_emod_of_nonneg h2, hw]
    have hN : N n < 64 := by unfold N; omega
    have hz : Z n = N n := by unfold Z N; rw [BitVec.toInt_eq_toNat_of_lt (by omega)]
    have h5 : 0 ≤ 64 - N n := by omega
    have h6 : (64 - N n).toNat = 64 - n.toNat := by unfold N; omega
    have h7 : wrap64 (64 - N n) = 64 - N n := by have := N_nonneg n; unfold wrap64; omega
    have hA : IntKind.u64.wrap (N 1#64 * 2 ^ (64 - n.toNat)) = N (1#64 <<< (64 - n.toNat)) := by have := N_shl 1#64 (64 - n.toNat); rwa [Nat.min_eq_left (by omega)] at this
    subst e3
    clear en hn hw hl
    go_enter Try.func7, Try.ntmps7
    go_wp2_with (first | (go_at_call 10; (with_reducible refine (ado_c _ _ _ _ _ _).mono ?_); rintro e w1 ⟨rfl, rfl⟩) | (go_at_call 12; (with_reducible refine (ashown_c _).mono ?_); rintro e w1 ⟨rfl, rfl⟩))
    go_ret
    exact ⟨rfl, (by repeat' (first | (with_reducible exact Below.refl _ _) | (with_reducible assumption) | (with_reducible refine Below.alloc ?_ ?_ _) | (with_reducible refine Below.setCell ?_ ?_ _) | (with_reducible refine Below.drew ?_) | (with_reducible refine Below.trans ?_ (Below.mono (by assumption) ?_)) | go_size))⟩

end Hk
