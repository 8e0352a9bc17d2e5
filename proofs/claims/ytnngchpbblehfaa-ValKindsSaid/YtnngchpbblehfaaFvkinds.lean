/- No number is where memory is, a Num is right just if its fact is, and two kinds have no register in common but where memory may be, and 0 (the given statement ValKinds). No condition: for every input. -/
import Derived.Test.YtnngchpbblehfaaRows
import Derived.Test.YtnngchpbblehfaaGp
import Derived.Test.YtnngchpbblehfaaVl9
import Derived.ProofKit
import Derived.OpenShut
import Derived.Lib.SmallJoins
namespace Go.Proofs.Ytnngchpbblehfaa.valKinds
open Go.ChangeShapes Go.WideShapes Go.ChangeAt Go.RowKit Go.Joins Hk
set_option linter.unusedVariables false
set_option linter.unusedSimpArgs false
theorem own : ownKnob Try.prog.godebug = none := by kernel_rfl
set_option maxRecDepth 100000 in
theorem lifted (os : Os) (started : os.Started) (H : Type) (enc : TypeId × Value → H) :
    ReturnsInHanded {} Try.checked os 5 .any (Rows.valKindsSpec.pre6 enc Try.prog Try.f5 Rows.valKindsRow.domain false) (Rows.valKindsSpec.post enc Try.prog Try.f5 false true false false) := by
  refine returnsInHanded_of_change (C := Try.checked) own started (by kernel_rfl) Try.func5
    (ChangeSpec.witness6 (enc := enc) (C := Try.checked) false ⟨#[], #[.agg #[.int .u64 0, .int .u64 0, .int .u64 0, .int .u64 0], .agg #[.int .u8 0, .int .u64 0, .int .u64 0, .int .u64 0, .int .u64 0, .int .i64 0, .int .i64 0], .agg #[.int .u8 0, .int .u64 0, .int .u64 0, .int .u64 0, .int .u64 0, .int .i64 0, .int .i64 0], .int .u64 0], []⟩ 8 (by kernel_rfl) (by kernel_rfl) (by kernel_rfl) (by kernel_rfl)) ?_
  intro W base args ds gs before hval0 hW hcnd _
  have hval : ∀ (j : Nat) t v, Try.f5.params[j]? = some t → args[j]? = some v → Value.okWide Try.prog W .any base t v := hval0
  have hW' := hW
  obtain ⟨p, q, hA0, hV, rfl, hfz, hnd⟩ := hW
  have hA : DataW.TrodAll enc Try.prog W 0 (fun _ => true) true Try.f5.params.toList args.toList ds p := hA0
  rw [Try.params5] at hA hval
  obtain ⟨v0, vs0, d0, ds0, p0, q0, hargs, rfl, rfl, h0, r0⟩ := trodAll_cons hA
  obtain ⟨v1, vs1, d1, ds1, p1, q1, rfl, rfl, rfl, h1, r1⟩ := trodAll_cons r0
  obtain ⟨v2, vs2, d2, ds2, p2, q2, rfl, rfl, rfl, h2, r2⟩ := trodAll_cons r1
  obtain ⟨v3, vs3, d3, ds3, p3, q3, rfl, rfl, rfl, h3, r3⟩ := trodAll_cons r2
  obtain ⟨rfl, rfl, rfl⟩ := trodAll_nil r3
  obtain rfl : args = #[v0, v1, v2, v3] := by cases args; simp_all
  obtain ⟨rfl, rfl⟩ := trodVars_none hV
  obtain ⟨cs0, rfl, sz0, rfl, lf0, rd0⟩ := open_flat (n := 9) (by kernel_rfl) (by kernel_rfl) (hval 0 28 v0 rfl rfl) h0
  obtain ⟨c0_0, e0_0, f0_0⟩ := lf0 0 (some .u64) (by kernel_rfl)
  obtain ⟨x0_0, rfl⟩ := fits_u64 f0_0
  obtain ⟨c0_1, e0_1, f0_1⟩ := lf0 1 (some .u64) (by kernel_rfl)
  obtain ⟨x0_1, rfl⟩ := fits_u64 f0_1
  obtain ⟨c0_2, e0_2, f0_2⟩ := lf0 2 (some .u64) (by kernel_rfl)
  obtain ⟨x0_2, rfl⟩ := fits_u64 f0_2
  obtain ⟨c0_3, e0_3, f0_3⟩ := lf0 3 (some .u64) (by kernel_rfl)
  obtain ⟨x0_3, rfl⟩ := fits_u64 f0_3
  obtain rfl : cs0 = #[.int .u64 (N x0_0), .int .u64 (N x0_1), .int .u64 (N x0_2), .int .u64 (N x0_3)] := array_of (l := [.int .u64 (N x0_0), .int .u64 (N x0_1), .int .u64 (N x0_2), .int .u64 (N x0_3)]) (sz0.trans (by kernel_rfl)) fun i hi => match i, hi with
    | 0, _ => e0_0 | 1, _ => e0_1 | 2, _ => e0_2 | 3, _ => e0_3 | k + 4, h => absurd h (Nat.not_lt.2 (Nat.le_add_left _ _))
  obtain ⟨cs1, rfl, sz1, rfl, lf1, rd1⟩ := open_flat (n := 9) (by kernel_rfl) (by kernel_rfl) (hval 1 30 v1 rfl rfl) h1
  obtain ⟨c1_0, e1_0, f1_0⟩ := lf1 0 (some .u8) (by kernel_rfl)
  obtain ⟨x1_0, rfl, lx1_0⟩ := fits_u8 f1_0
  obtain ⟨c1_1, e1_1, f1_1⟩ := lf1 1 (some .u64) (by kernel_rfl)
  obtain ⟨x1_1, rfl⟩ := fits_u64 f1_1
  obtain ⟨c1_2, e1_2, f1_2⟩ := lf1 2 (some .u64) (by kernel_rfl)
  obtain ⟨x1_2, rfl⟩ := fits_u64 f1_2
  obtain ⟨c1_3, e1_3, f1_3⟩ := lf1 3 (some .u64) (by kernel_rfl)
  obtain ⟨x1_3, rfl⟩ := fits_u64 f1_3
  obtain ⟨c1_4, e1_4, f1_4⟩ := lf1 4 (some .u64) (by kernel_rfl)
  obtain ⟨x1_4, rfl⟩ := fits_u64 f1_4
  obtain ⟨c1_5, e1_5, f1_5⟩ := lf1 5 (some .i64) (by kernel_rfl)
  obtain ⟨x1_5, rfl, lx1_5⟩ := fits_i64 f1_5
  obtain ⟨c1_6, e1_6, f1_6⟩ := lf1 6 (some .i64) (by kernel_rfl)
  obtain ⟨x1_6, rfl, lx1_6⟩ := fits_i64 f1_6
  obtain rfl : cs1 = #[.int .u8 x1_0, .int .u64 (N x1_1), .int .u64 (N x1_2), .int .u64 (N x1_3), .int .u64 (N x1_4), .int .i64 x1_5, .int .i64 x1_6] := array_of (l := [.int .u8 x1_0, .int .u64 (N x1_1), .int .u64 (N x1_2), .int .u64 (N x1_3), .int .u64 (N x1_4), .int .i64 x1_5, .int .i64 x1_6]) (sz1.trans (by kernel_rfl)) fun i hi => match i, hi with
    | 0, _ => e1_0 | 1, _ => e1_1 | 2, _ => e1_2 | 3, _ => e1_3 | 4, _ => e1_4 | 5, _ => e1_5 | 6, _ => e1_6 | k + 7, h => absurd h (Nat.not_lt.2 (Nat.le_add_left _ _))
  obtain ⟨cs2, rfl, sz2, rfl, lf2, rd2⟩ := open_flat (n := 9) (by kernel_rfl) (by kernel_rfl) (hval 2 30 v2 rfl rfl) h2
  obtain ⟨c2_0, e2_0, f2_0⟩ := lf2 0 (some .u8) (by kernel_rfl)
  obtain ⟨x2_0, rfl, lx2_0⟩ := fits_u8 f2_0
  obtain ⟨c2_1, e2_1, f2_1⟩ := lf2 1 (some .u64) (by kernel_rfl)
  obtain ⟨x2_1, rfl⟩ := fits_u64 f2_1
  obtain ⟨c2_2, e2_2, f2_2⟩ := lf2 2 (some .u64) (by kernel_rfl)
  obtain ⟨x2_2, rfl⟩ := fits_u64 f2_2
  obtain ⟨c2_3, e2_3, f2_3⟩ := lf2 3 (some .u64) (by kernel_rfl)
  obtain ⟨x2_3, rfl⟩ := fits_u64 f2_3
  obtain ⟨c2_4, e2_4, f2_4⟩ := lf2 4 (some .u64) (by kernel_rfl)
  obtain ⟨x2_4, rfl⟩ := fits_u64 f2_4
  obtain ⟨c2_5, e2_5, f2_5⟩ := lf2 5 (some .i64) (by kernel_rfl)
  obtain ⟨x2_5, rfl, lx2_5⟩ := fits_i64 f2_5
  obtain ⟨c2_6, e2_6, f2_6⟩ := lf2 6 (some .i64) (by kernel_rfl)
  obtain ⟨x2_6, rfl, lx2_6⟩ := fits_i64 f2_6
  obtain rfl : cs2 = #[.int .u8 x2_0, .int .u64 (N x2_1), .int .u64 (N x2_2), .int .u64 (N x2_3), .int .u64 (N x2_4), .int .i64 x2_5, .int .i64 x2_6] := array_of (l := [.int .u8 x2_0, .int .u64 (N x2_1), .int .u64 (N x2_2), .int .u64 (N x2_3), .int .u64 (N x2_4), .int .i64 x2_5, .int .i64 x2_6]) (sz2.trans (by kernel_rfl)) fun i hi => match i, hi with
    | 0, _ => e2_0 | 1, _ => e2_1 | 2, _ => e2_2 | 3, _ => e2_3 | 4, _ => e2_4 | 5, _ => e2_5 | 6, _ => e2_6 | k + 7, h => absurd h (Nat.not_lt.2 (Nat.le_add_left _ _))
  obtain ⟨a3, rfl, rfl, rfl, w3⟩ := open_int Try.underlying22 (hval 3 22 v3 rfl rfl) h3
  obtain ⟨b3, rfl⟩ := word_of w3
  clear hA0 hval0
  simp only [List.append_nil] at hW'
  refine (valKinds_walk ⟨⟨x0_0, x0_1⟩, ⟨x0_2, x0_3⟩⟩ ⟨x1_0, ⟨⟨x1_1, x1_2⟩, ⟨x1_3, x1_4⟩⟩, x1_5, x1_6⟩ lx1_0 lx1_5 lx1_6 ⟨x2_0, ⟨⟨x2_1, x2_2⟩, ⟨x2_3, x2_4⟩⟩, x2_5, x2_6⟩ lx2_0 lx2_5 lx2_6 b3 W).mono fun e W' ⟨he, hb⟩ => ?_
  subst he
  exact ⟨_, rfl, post_below (pa := []) (pv := []) hW' (fun _ _ _ => (trodAll_cons_mk (shut_bool Try.underlying4 _) trodAll_mk0)) (fun sp _ => (trodAll_cons_mk (rd0 _ _ sp _) (trodAll_cons_mk (rd1 _ _ sp _) (trodAll_cons_mk (rd2 _ _ sp _) (trodAll_cons_mk (shut_int Try.underlying22 w3) trodAll_mk0))))) (fun _ _ => rfl) rfl
    hb (ok_one (by kernel_rfl) rfl (okWide_bool_mk Try.underlying4 _))⟩
/-- The statement. -/
theorem proved : Rows.ValKindsSaid :=
  OpenClaim.holds_of_wide 5 Try.f5 rfl rfl rfl rfl rfl rfl rfl ⟨rfl, rfl, rfl, rfl, rfl⟩ rfl rfl rfl rfl rfl (by kernel_rfl) Try.func5 (by kernel_rfl)
    (of_decide_eq_true (by kernel_rfl)) (by unfold Func.isWrapper; first | (rw [if_pos (by decide +kernel)]; kernel_rfl) | (rw [if_neg (by decide +kernel)]; exact ⟨rfl, rfl⟩))
    (fun os started H enc _ => lifted os started H enc)
#print axioms proved
end Go.Proofs.Ytnngchpbblehfaa.valKinds
