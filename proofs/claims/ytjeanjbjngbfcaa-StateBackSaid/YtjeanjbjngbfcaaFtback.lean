/- What was put is got, and no other slot changes, and no register (the given statement StateBack). No condition: for every input. -/
import Derived.Test.YtjeanjbjngbfcaaRows
import Derived.Test.YtjeanjbjngbfcaaGp
import Derived.Test.YtjeanjbjngbfcaaStf
import Derived.Test.YtjeanjbjngbfcaaSla
import Derived.Test.YtjeanjbjngbfcaaSl20
import Derived.ProofKit
import Derived.OpenShut
import Derived.Lib.SmallJoins
namespace Go.Proofs.Ytjeanjbjngbfcaa.stateBack
open Go.ChangeShapes Go.WideShapes Go.ChangeAt Go.RowKit Go.Joins Hk
set_option linter.unusedVariables false
set_option linter.unusedSimpArgs false
theorem own : ownKnob Try.prog.godebug = none := by kernel_rfl
set_option maxRecDepth 100000 in
theorem lifted (os : Os) (started : os.Started) (H : Type) (enc : TypeId × Value → H) :
    ReturnsInHanded {} Try.checked os 4 .any (Rows.stateBackSpec.pre6 enc Try.prog Try.f4 Rows.stateBackRow.domain false) (Rows.stateBackSpec.post enc Try.prog Try.f4 false true false false) := by
  refine returnsInHanded_of_change (C := Try.checked) own started (by kernel_rfl) Try.func4
    (ChangeSpec.witness6 (enc := enc) (C := Try.checked) false ⟨#[], #[.slice none 0 0, .agg #[.int .u8 0, .int .i64 0, .int .i64 0, .int .u8 0, .int .u64 0, .int .u64 0, .int .u64 0, .int .u64 0, .int .i64 0, .int .i64 0]], []⟩ 8 (by kernel_rfl) (by kernel_rfl) (by kernel_rfl) (by kernel_rfl)) ?_
  intro W base args ds gs before hval0 hW hcnd _
  have hval : ∀ (j : Nat) t v, Try.f4.params[j]? = some t → args[j]? = some v → Value.okWide Try.prog W .any base t v := hval0
  have hW' := hW
  obtain ⟨p, q, hA0, hV, rfl, hfz, hnd⟩ := hW
  have hA : DataW.TrodAll enc Try.prog W 0 (fun _ => true) true Try.f4.params.toList args.toList ds p := hA0
  rw [Try.params4] at hA hval
  obtain ⟨v0, vs0, d0, ds0, p0, q0, hargs, rfl, rfl, h0, r0⟩ := trodAll_cons hA
  obtain ⟨v1, vs1, d1, ds1, p1, q1, rfl, rfl, rfl, h1, r1⟩ := trodAll_cons r0
  obtain ⟨rfl, rfl, rfl⟩ := trodAll_nil r1
  obtain rfl : args = #[v0, v1] := by cases args; simp_all
  obtain ⟨rfl, rfl⟩ := trodVars_none hV
  obtain ⟨pp0, len0, cap0, rfl, hl0, ha0, rd0⟩ := open_flats (n := 9) Try.underlying22 (by kernel_rfl) (Nat.lt_of_lt_of_eq (by decide : (0 : Nat) < 10) (by kernel_rfl)) (hval 0 22 v0 rfl rfl) h0 (fun x hx => hW'.lt x (by simp [hx]))
  obtain ⟨L0, hA0⟩ := acts_of (by kernel_rfl) ha0
  obtain ⟨cs1, rfl, sz1, rfl, lf1, rd1⟩ := open_flat (n := 9) (by kernel_rfl) (by kernel_rfl) (hval 1 46 v1 rfl rfl) h1
  obtain ⟨c1_0, e1_0, f1_0⟩ := lf1 0 (some .u8) (by kernel_rfl)
  obtain ⟨x1_0, rfl, lx1_0⟩ := fits_u8 f1_0
  obtain ⟨c1_1, e1_1, f1_1⟩ := lf1 1 (some .i64) (by kernel_rfl)
  obtain ⟨x1_1, rfl, lx1_1⟩ := fits_i64 f1_1
  obtain ⟨c1_2, e1_2, f1_2⟩ := lf1 2 (some .i64) (by kernel_rfl)
  obtain ⟨x1_2, rfl, lx1_2⟩ := fits_i64 f1_2
  obtain ⟨c1_3, e1_3, f1_3⟩ := lf1 3 (some .u8) (by kernel_rfl)
  obtain ⟨x1_3, rfl, lx1_3⟩ := fits_u8 f1_3
  obtain ⟨c1_4, e1_4, f1_4⟩ := lf1 4 (some .u64) (by kernel_rfl)
  obtain ⟨x1_4, rfl⟩ := fits_u64 f1_4
  obtain ⟨c1_5, e1_5, f1_5⟩ := lf1 5 (some .u64) (by kernel_rfl)
  obtain ⟨x1_5, rfl⟩ := fits_u64 f1_5
  obtain ⟨c1_6, e1_6, f1_6⟩ := lf1 6 (some .u64) (by kernel_rfl)
  obtain ⟨x1_6, rfl⟩ := fits_u64 f1_6
  obtain ⟨c1_7, e1_7, f1_7⟩ := lf1 7 (some .u64) (by kernel_rfl)
  obtain ⟨x1_7, rfl⟩ := fits_u64 f1_7
  obtain ⟨c1_8, e1_8, f1_8⟩ := lf1 8 (some .i64) (by kernel_rfl)
  obtain ⟨x1_8, rfl, lx1_8⟩ := fits_i64 f1_8
  obtain ⟨c1_9, e1_9, f1_9⟩ := lf1 9 (some .i64) (by kernel_rfl)
  obtain ⟨x1_9, rfl, lx1_9⟩ := fits_i64 f1_9
  obtain rfl : cs1 = #[.int .u8 x1_0, .int .i64 x1_1, .int .i64 x1_2, .int .u8 x1_3, .int .u64 (N x1_4), .int .u64 (N x1_5), .int .u64 (N x1_6), .int .u64 (N x1_7), .int .i64 x1_8, .int .i64 x1_9] := array_of (l := [.int .u8 x1_0, .int .i64 x1_1, .int .i64 x1_2, .int .u8 x1_3, .int .u64 (N x1_4), .int .u64 (N x1_5), .int .u64 (N x1_6), .int .u64 (N x1_7), .int .i64 x1_8, .int .i64 x1_9]) (sz1.trans (by kernel_rfl)) fun i hi => match i, hi with
    | 0, _ => e1_0 | 1, _ => e1_1 | 2, _ => e1_2 | 3, _ => e1_3 | 4, _ => e1_4 | 5, _ => e1_5 | 6, _ => e1_6 | 7, _ => e1_7 | 8, _ => e1_8 | 9, _ => e1_9 | k + 10, h => absurd h (Nat.not_lt.2 (Nat.le_add_left _ _))
  clear hA0 hval0
  simp only [List.append_nil] at hW'
  refine (stateBack_walk pp0 len0 cap0 hl0 L0 x1_0 lx1_0 x1_1 lx1_1 x1_2 lx1_2 ⟨x1_3, ⟨⟨x1_4, x1_5⟩, ⟨x1_6, x1_7⟩⟩, x1_8, x1_9⟩ W hA0).mono fun e W' ⟨he, hb⟩ => ?_
  subst he
  exact ⟨_, rfl, post_below (pa := p0 ++ []) (pv := []) hW' (fun _ _ _ => (trodAll_cons_mk (shut_bool Try.underlying4 _) trodAll_mk0)) (fun sp hsp => (trodAll_cons_mk (rd0 _ sp hb (fun x hx => hsp x (by simp [hx]))) (trodAll_cons_mk (rd1 _ _ sp _) trodAll_mk0))) (fun _ _ => rfl) (by simp)
    hb (ok_one (by kernel_rfl) rfl (okWide_bool_mk Try.underlying4 _))⟩
/-- The statement. -/
theorem proved : Rows.StateBackSaid :=
  OpenClaim.holds_of_wide 4 Try.f4 rfl rfl rfl rfl rfl rfl rfl ⟨rfl, rfl, rfl, rfl, rfl⟩ rfl rfl rfl rfl rfl (by kernel_rfl) Try.func4 (by kernel_rfl)
    (of_decide_eq_true (by kernel_rfl)) (by unfold Func.isWrapper; first | (rw [if_pos (by decide +kernel)]; kernel_rfl) | (rw [if_neg (by decide +kernel)]; exact ⟨rfl, rfl⟩))
    (fun os started H enc _ => lifted os started H enc)
#print axioms proved
end Go.Proofs.Ytjeanjbjngbfcaa.stateBack
