/- Packages mem, table, val: At, Area, in; old memory is as it was. No condition but those in each statement. -/
import Derived.Test.YtnngchpbblehfaaProg
import Derived.Test.YtnngchpbblehfaaGp
import Derived.Test.YtnngchpbblehfaaVl
import Derived.Deep.DeepCutAuto
namespace Hk
open Go Go.RowKit Go.Proofs
set_option linter.unusedSimpArgs false
set_option linter.unusedVariables false
set_option maxRecDepth 100000
attribute [go_sem] Tn.eta Sp.eta Fa.eta Vl.eta
@[go_sem] theorem wrap_i64 (x : BitVec 64) : IntKind.i64.wrap (N x) = x.toInt := by
  have h := x.isLt
  rw [BitVec.toInt_eq_toNat_cond]
  show (if (true && decide (N x % 18446744073709551616 ≥ 9223372036854775808)) = true then N x % 18446744073709551616 - 18446744073709551616 else N x % 18446744073709551616) = _
  unfold N
  simp only [Bool.true_and, decide_eq_true_eq]
  have e3 : (2 : Nat) ^ 64 = 18446744073709551616 := by decide
  rw [e3] at h ⊢
  split <;> split <;> omega
attribute [go_sem low] wrap_N
@[go_sem high] theorem N_shr32 (x : BitVec 64) : N x / 4294967296 = N (x >>> 32) := by
  unfold N; rw [BitVec.toNat_ushiftRight, Nat.shiftRight_eq_div_pow]; rfl
@[go_sem high] theorem toNat_shr32 (x : BitVec 64) : ((x.toNat : Int) >>> 32) = N (x >>> 32) := by
  unfold N; rw [BitVec.toNat_ushiftRight]; rfl
@[go_sem] theorem ofInt_back (x : BitVec 64) : BitVec.ofInt 64 x.toInt = x := BitVec.ofInt_toInt

theorem at_c (a off : Int) (w : World) : Calls Try.prog 30 #[.int .i64 a, .int .i64 off] w fun e w' => e = .returned (.int .u64 (N (Vl.at_ a off))) ∧ Below w.heap.size w w' := by
  go_enter Try.func30, Try.ntmps30
  go_wp2
  go_ret
  exact ⟨by simp [Vl.at_], (by repeat' (first | (with_reducible exact Below.refl _ _) | (with_reducible assumption) | (with_reducible refine Below.alloc ?_ ?_ _) | (with_reducible refine Below.setCell ?_ ?_ _) | (with_reducible refine Below.drew ?_) | (with_reducible refine below_dn ?_ _) | (with_reducible refine Below.trans ?_ (Below.mono (by assumption) ?_)) | go_size))⟩

theorem area_c (i s : Int) (h0 : 0 ≤ i) (h1 : i < 8) (h2 : 0 ≤ s) (h3 : s ≤ 1023) (w : World) : Calls Try.prog 43 #[.int .i64 i, .int .i64 s] w fun e w' => e = .returned (.int .i64 (Vl.area i s)) ∧ Below w.heap.size w w' := by
  go_enter Try.func43, Try.ntmps43
  go_wp2
  go_ret
  exact ⟨by simp [Vl.area, *], (by repeat' (first | (with_reducible exact Below.refl _ _) | (with_reducible assumption) | (with_reducible refine Below.alloc ?_ ?_ _) | (with_reducible refine Below.setCell ?_ ?_ _) | (with_reducible refine Below.drew ?_) | (with_reducible refine below_dn ?_ _) | (with_reducible refine Below.trans ?_ (Below.mono (by assumption) ?_)) | go_size))⟩

theorem at_hi_c (x : BitVec 64) (w : World) : Calls Try.prog 30 #[.int .i64 (N x), .int .i64 0] w fun e w' => e = .returned (.int .u64 (N (x <<< 32))) ∧ Below w.heap.size w w' := by
  have h := at_c (N x) 0 w
  have e : Vl.at_ (N x) 0 = x <<< 32 := by
    unfold Vl.at_
    rw [ofInt_N]
    show x <<< 32 + 0#64 = x <<< 32
    simp
  rw [e] at h
  exact h

set_option maxHeartbeats 1000000 in
theorem vin_c (i off : Int) (n : BitVec 64) (h0 : 0 ≤ i) (h1 : i < 8) (w : World) : Calls Try.prog 31 #[.int .i64 i, .int .i64 off, .int .u64 (N n)] w fun e w' => e = .returned (.bool (Vl.inA i off n)) ∧ Below w.heap.size w w' := by
  unfold Vl.inA
  generalize hy : n - BitVec.ofInt 64 off = y
  go_enter Try.func31, Try.ntmps31
  go_upto_region 3 with (first | (go_at_call 43; (with_reducible refine (area_c _ _ (by assumption) (by assumption) (by omega) (by omega) _).mono ?_); rintro e w1 ⟨rfl, hb1⟩; obtain ⟨hc1, hf1, hz1⟩ := bcell hb1))
  go_wp2_with fail
  refine (at_hi_c _ _).mono ?_
  rintro e w2 ⟨rfl, hb2⟩
  cases e1 : (y == (y >>> 32) <<< 32) <;> cases e2 : decide (BitVec.ofInt 64 (Vl.area i 0) ≤ y >>> 32)
  all_goals (go_wp2; go_ret; exact ⟨by simp [*], (by repeat' (first | (with_reducible exact Below.refl _ _) | (with_reducible assumption) | (with_reducible refine Below.alloc ?_ ?_ _) | (with_reducible refine Below.setCell ?_ ?_ _) | (with_reducible refine Below.drew ?_) | (with_reducible refine below_dn ?_ _) | (with_reducible refine Below.trans ?_ (Below.mono (by assumption) ?_)) | go_size))⟩)

end Hk
