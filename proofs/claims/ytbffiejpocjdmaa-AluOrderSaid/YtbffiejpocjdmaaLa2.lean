/- The statement AluOrder of the Go text: it returns true, and old memory is as it was. No condition. -/
import Derived.Test.YtbffiejpocjdmaaProg
import Derived.Test.YtbffiejpocjdmaaWd
import Derived.Test.YtbffiejpocjdmaaAluLaw
import Derived.Test.YtbffiejpocjdmaaLa1
namespace Hk
open Go Go.RowKit Go.Proofs
set_option linter.unusedSimpArgs false
set_option linter.unusedVariables false
set_option maxRecDepth 100000
attribute [go_sem] Alu.val_some Alu.err_some
theorem aluOrder_walk (k : Int) (hk : 0 ≤ k ∧ k ≤ 255) (wd : Bool) (a b c : BitVec 64) (w : World) : Calls Try.prog 6 #[.int .u8 k, .bool (wd), .int .u64 (N a), .int .u64 (N b), .int .u64 (N c)] w fun e w' => e = .returned (.bool true) ∧ Below w.heap.size w w' := by
  have h0 : k % 5 = 0 ∨ k % 5 = 1 ∨ k % 5 = 2 ∨ k % 5 = 3 ∨ k % 5 = 4 := by omega
  have h1 : k.tmod 5 = k % 5 := by rw [Int.tmod_eq_emod_of_nonneg hk.1]
  have h2 : 0 ≤ k := hk.1
  have h3 : k ≤ 255 := hk.2
  clear hk
  rcases h0 with h | h | h | h | h
  · obtain ⟨x, p, q, e1, e2, e3, e4, e5⟩ := Alu.order 0 (by decide) wd a b c
    rw [h] at h1
    go_enter Try.func6, Try.ntmps6
    go_wp2_with (first | (go_at_call 10; (with_reducible refine (ado_c _ _ _ _ _ _).mono ?_); rintro e w1 ⟨rfl, rfl⟩) | (go_at_call 12; (with_reducible refine (ashown_c _).mono ?_); rintro e w1 ⟨rfl, rfl⟩))
    go_ret
    exact ⟨rfl, (by repeat' (first | (with_reducible exact Below.refl _ _) | (with_reducible assumption) | (with_reducible refine Below.alloc ?_ ?_ _) | (with_reducible refine Below.setCell ?_ ?_ _) | (with_reducible refine Below.drew ?_) | (with_reducible refine Below.trans ?_ (Below.mono (by assumption) ?_)) | go_size))⟩
  · obtain ⟨x, p, q, e1, e2, e3, e4, e5⟩ := Alu.order 32 (by decide) wd a b c
    rw [h] at h1
    go_enter Try.func6, Try.ntmps6
    go_wp2_with (first | (go_at_call 10; (with_reducible refine (ado_c _ _ _ _ _ _).mono ?_); rintro e w1 ⟨rfl, rfl⟩) | (go_at_call 12; (with_reducible refine (ashown_c _).mono ?_); rintro e w1 ⟨rfl, rfl⟩))
    go_ret
    exact ⟨rfl, (by repeat' (first | (with_reducible exact Below.refl _ _) | (with_reducible assumption) | (with_reducible refine Below.alloc ?_ ?_ _) | (with_reducible refine Below.setCell ?_ ?_ _) | (with_reducible refine Below.drew ?_) | (with_reducible refine Below.trans ?_ (Below.mono (by assumption) ?_)) | go_size))⟩
  · obtain ⟨x, p, q, e1, e2, e3, e4, e5⟩ := Alu.order 64 (by decide) wd a b c
    rw [h] at h1
    go_enter Try.func6, Try.ntmps6
    go_wp2_with (first | (go_at_call 10; (with_reducible refine (ado_c _ _ _ _ _ _).mono ?_); rintro e w1 ⟨rfl, rfl⟩) | (go_at_call 12; (with_reducible refine (ashown_c _).mono ?_); rintro e w1 ⟨rfl, rfl⟩))
    go_ret
    exact ⟨rfl, (by repeat' (first | (with_reducible exact Below.refl _ _) | (with_reducible assumption) | (with_reducible refine Below.alloc ?_ ?_ _) | (with_reducible refine Below.setCell ?_ ?_ _) | (with_reducible refine Below.drew ?_) | (with_reducible refine Below.trans ?_ (Below.mono (by assumption) ?_)) | go_size))⟩
  · obtain ⟨x, p, q, e1, e2, e3, e4, e5⟩ := Alu.order 80 (by decide) wd a b c
    rw [h] at h1
    go_enter Try.func6, Try.ntmps6
    go_wp2_with (first | (go_at_call 10; (with_reducible refine (ado_c _ _ _ _ _ _).mono ?_); rintro e w1 ⟨rfl, rfl⟩) | (go_at_call 12; (with_reducible refine (ashown_c _).mono ?_); rintro e w1 ⟨rfl, rfl⟩))
    go_ret
    exact ⟨rfl, (by repeat' (first | (with_reducible exact Below.refl _ _) | (with_reducible assumption) | (with_reducible refine Below.alloc ?_ ?_ _) | (with_reducible refine Below.setCell ?_ ?_ _) | (with_reducible refine Below.drew ?_) | (with_reducible refine Below.trans ?_ (Below.mono (by assumption) ?_)) | go_size))⟩
  · obtain ⟨x, p, q, e1, e2, e3, e4, e5⟩ := Alu.order 160 (by decide) wd a b c
    rw [h] at h1
    go_enter Try.func6, Try.ntmps6
    go_wp2_with (first | (go_at_call 10; (with_reducible refine (ado_c _ _ _ _ _ _).mono ?_); rintro e w1 ⟨rfl, rfl⟩) | (go_at_call 12; (with_reducible refine (ashown_c _).mono ?_); rintro e w1 ⟨rfl, rfl⟩))
    go_ret
    exact ⟨rfl, (by repeat' (first | (with_reducible exact Below.refl _ _) | (with_reducible assumption) | (with_reducible refine Below.alloc ?_ ?_ _) | (with_reducible refine Below.setCell ?_ ?_ _) | (with_reducible refine Below.drew ?_) | (with_reducible refine Below.trans ?_ (Below.mono (by assumption) ?_)) | go_size))⟩

end Hk
