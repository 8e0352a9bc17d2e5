/- What is known of what arithmetic makes is the document's (the given statement FactDoes). No condition: for every input. -/
import Derived.Test.YtmhkngblpojeaaaRows
import Derived.Test.YtmhkngblpojeaaaGp
import Derived.Test.YtmhkngblpojeaaaFl8
import Derived.ProofKit
import Derived.OpenShut
import Derived.Lib.SmallJoins
namespace Go.Proofs.Ytmhkngblpojeaaa.factDoes
open Go.ChangeShapes Go.WideShapes Go.ChangeAt Go.RowKit Go.Joins Hk
set_option linter.unusedVariables false
set_option linter.unusedSimpArgs false
theorem own : ownKnob Try.prog.godebug = none := by kernel_rfl
set_option maxRecDepth 100000 in
theorem lifted (os : Os) (started : os.Started) (H : Type) (enc : TypeId × Value → H) :
    ReturnsInHanded {} Try.checked os 3 .any (Rows.factDoesSpec.pre6 enc Try.prog Try.f3 Rows.factDoesRow.domain false) (Rows.factDoesSpec.post enc Try.prog Try.f3 false true false false) := by
  refine returnsInHanded_of_change (C := Try.checked) own started (by kernel_rfl) Try.func3
    (ChangeSpec.witness6 (enc := enc) (C := Try.checked) false ⟨#[], #[.int .u8 0, .bool false, .int .i16 0, .agg #[.int .u64 0, .int .u64 0, .int .u64 0, .int .u64 0], .agg #[.int .u64 0, .int .u64 0, .int .u64 0, .int .u64 0]], []⟩ 8 (by kernel_rfl) (by kernel_rfl) (by kernel_rfl) (by kernel_rfl)) ?_
  intro W base args ds gs before hval0 hW hcnd _
  have hval : ∀ (j : Nat) t v, Try.f3.params[j]? = some t → args[j]? = some v → Value.okWide Try.prog W .any base t v := hval0
  have hW' := hW
  obtain ⟨p, q, hA0, hV, rfl, hfz, hnd⟩ := hW
  have hA : DataW.TrodAll enc Try.prog W 0 (fun _ => true) true Try.f3.params.toList args.toList ds p := hA0
  rw [Try.params3] at hA hval
  obtain ⟨v0, vs0, d0, ds0, p0, q0, hargs, rfl, rfl, h0, r0⟩ := trodAll_cons hA
  obtain ⟨v1, vs1, d1, ds1, p1, q1, rfl, rfl, rfl, h1, r1⟩ := trodAll_cons r0
  obtain ⟨v2, vs2, d2, ds2, p2, q2, rfl, rfl, rfl, h2, r2⟩ := trodAll_cons r1
  obtain ⟨v3, vs3, d3, ds3, p3, q3, rfl, rfl, rfl, h3, r3⟩ := trodAll_cons r2
  obtain ⟨v4, vs4, d4, ds4, p4, q4, rfl, rfl, rfl, h4, r4⟩ := trodAll_cons r3
  obtain ⟨rfl, rfl, rfl⟩ := trodAll_nil r4
  obtain rfl : args = #[v0, v1, v2, v3, v4] := by cases args; simp_all
  obtain ⟨rfl, rfl⟩ := trodVars_none hV
  obtain ⟨a0, rfl, rfl, rfl, w0⟩ := open_int Try.underlying5 (hval 0 5 v0 rfl rfl) h0
  obtain ⟨a1, rfl, rfl, rfl⟩ := open_bool Try.underlying4 (hval 1 4 v1 rfl rfl) h1
  obtain ⟨a2, rfl, rfl, rfl, w2⟩ := open_int Try.underlying22 (hval 2 22 v2 rfl rfl) h2
  obtain ⟨cs3, rfl, sz3, rfl, lf3, rd3⟩ := open_flat (n := 9) (by kernel_rfl) (by kernel_rfl) (hval 3 29 v3 rfl rfl) h3
  obtain ⟨c3_0, e3_0, f3_0⟩ := lf3 0 (some .u64) (by kernel_rfl)
  obtain ⟨x3_0, rfl⟩ := fits_u64 f3_0
  obtain ⟨c3_1, e3_1, f3_1⟩ := lf3 1 (some .u64) (by kernel_rfl)
  obtain ⟨x3_1, rfl⟩ := fits_u64 f3_1
  obtain ⟨c3_2, e3_2, f3_2⟩ := lf3 2 (some .u64) (by kernel_rfl)
  obtain ⟨x3_2, rfl⟩ := fits_u64 f3_2
  obtain ⟨c3_3, e3_3, f3_3⟩ := lf3 3 (some .u64) (by kernel_rfl)
  obtain ⟨x3_3, rfl⟩ := fits_u64 f3_3
  obtain rfl : cs3 = #[.int .u64 (N x3_0), .int .u64 (N x3_1), .int .u64 (N x3_2), .int .u64 (N x3_3)] := array_of (l := [.int .u64 (N x3_0), .int .u64 (N x3_1), .int .u64 (N x3_2), .int .u64 (N x3_3)]) (sz3.trans (by kernel_rfl)) fun i hi => match i, hi with
    | 0, _ => e3_0 | 1, _ => e3_1 | 2, _ => e3_2 | 3, _ => e3_3 | k + 4, h => absurd h (Nat.not_lt.2 (Nat.le_add_left _ _))
  obtain ⟨cs4, rfl, sz4, rfl, lf4, rd4⟩ := open_flat (n := 9) (by kernel_rfl) (by kernel_rfl) (hval 4 29 v4 rfl rfl) h4
  obtain ⟨c4_0, e4_0, f4_0⟩ := lf4 0 (some .u64) (by kernel_rfl)
  obtain ⟨x4_0, rfl⟩ := fits_u64 f4_0
  obtain ⟨c4_1, e4_1, f4_1⟩ := lf4 1 (some .u64) (by kernel_rfl)
  obtain ⟨x4_1, rfl⟩ := fits_u64 f4_1
  obtain ⟨c4_2, e4_2, f4_2⟩ := lf4 2 (some .u64) (by kernel_rfl)
  obtain ⟨x4_2, rfl⟩ := fits_u64 f4_2
  obtain ⟨c4_3, e4_3, f4_3⟩ := lf4 3 (some .u64) (by kernel_rfl)
  obtain ⟨x4_3, rfl⟩ := fits_u64 f4_3
  obtain rfl : cs4 = #[.int .u64 (N x4_0), .int .u64 (N x4_1), .int .u64 (N x4_2), .int .u64 (N x4_3)] := array_of (l := [.int .u64 (N x4_0), .int .u64 (N x4_1), .int .u64 (N x4_2), .int .u64 (N x4_3)]) (sz4.trans (by kernel_rfl)) fun i hi => match i, hi with
    | 0, _ => e4_0 | 1, _ => e4_1 | 2, _ => e4_2 | 3, _ => e4_3 | k + 4, h => absurd h (Nat.not_lt.2 (Nat.le_add_left _ _))
  clear hA0 hval0
  simp only [List.append_nil] at hW'
  refine (factDoes_walk a0 (u8_of w0) a1 a2 (i16_of w2) ⟨⟨x3_0, x3_1⟩, ⟨x3_2, x3_3⟩⟩ ⟨⟨x4_0, x4_1⟩, ⟨x4_2, x4_3⟩⟩ W).mono fun e W' ⟨he, hb⟩ => ?_
  subst he
  exact ⟨_, rfl, post_below (pa := []) (pv := []) hW' (fun _ _ _ => (trodAll_cons_mk (shut_bool Try.underlying4 _) trodAll_mk0)) (fun sp _ => (trodAll_cons_mk (shut_int Try.underlying5 w0) (trodAll_cons_mk (shut_bool Try.underlying4 a1) (trodAll_cons_mk (shut_int Try.underlying22 w2) (trodAll_cons_mk (rd3 _ _ sp _) (trodAll_cons_mk (rd4 _ _ sp _) trodAll_mk0)))))) (fun _ _ => rfl) rfl
    hb (ok_one (by kernel_rfl) rfl (okWide_bool_mk Try.underlying4 _))⟩
/-- The statement. -/
theorem proved : Rows.FactDoesSaid :=
  OpenClaim.holds_of_wide 3 Try.f3 rfl rfl rfl rfl rfl rfl rfl ⟨rfl, rfl, rfl, rfl, rfl⟩ rfl rfl rfl rfl rfl (by kernel_rfl) Try.func3 (by kernel_rfl)
    (of_decide_eq_true (by kernel_rfl)) (by unfold Func.isWrapper; first | (rw [if_pos (by decide +kernel)]; kernel_rfl) | (rw [if_neg (by decide +kernel)]; exact ⟨rfl, rfl⟩))
    (fun os started H enc _ => lifted os started H enc)
#print axioms proved
end Go.Proofs.Ytmhkngblpojeaaa.factDoes
