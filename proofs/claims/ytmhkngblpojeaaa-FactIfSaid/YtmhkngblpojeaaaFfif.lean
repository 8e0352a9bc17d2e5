/- What is known of both, if a condition holds, is the document's (the given statement FactIf). No condition: for every input. -/
import Derived.Test.YtmhkngblpojeaaaRows
import Derived.Test.YtmhkngblpojeaaaGp
import Derived.Test.YtmhkngblpojeaaaFl9
import Derived.ProofKit
import Derived.OpenShut
import Derived.Lib.SmallJoins
namespace Go.Proofs.Ytmhkngblpojeaaa.factIf
open Go.ChangeShapes Go.WideShapes Go.ChangeAt Go.RowKit Go.Joins Hk
set_option linter.unusedVariables false
set_option linter.unusedSimpArgs false
theorem own : ownKnob Try.prog.godebug = none := by kernel_rfl
set_option maxRecDepth 100000 in
theorem lifted (os : Os) (started : os.Started) (H : Type) (enc : TypeId × Value → H) :
    ReturnsInHanded {} Try.checked os 10 .any (Rows.factIfSpec.pre6 enc Try.prog Try.f10 Rows.factIfRow.domain false) (Rows.factIfSpec.post enc Try.prog Try.f10 false true false false) := by
  refine returnsInHanded_of_change (C := Try.checked) own started (by kernel_rfl) Try.func10
    (ChangeSpec.witness6 (enc := enc) (C := Try.checked) false ⟨#[], #[.int .u8 0, .bool false, .agg #[.int .u64 0, .int .u64 0, .int .u64 0, .int .u64 0], .agg #[.int .u64 0, .int .u64 0, .int .u64 0, .int .u64 0]], []⟩ 8 (by kernel_rfl) (by kernel_rfl) (by kernel_rfl) (by kernel_rfl)) ?_
  intro W base args ds gs before hval0 hW hcnd _
  have hval : ∀ (j : Nat) t v, Try.f10.params[j]? = some t → args[j]? = some v → Value.okWide Try.prog W .any base t v := hval0
  have hW' := hW
  obtain ⟨p, q, hA0, hV, rfl, hfz, hnd⟩ := hW
  have hA : DataW.TrodAll enc Try.prog W 0 (fun _ => true) true Try.f10.params.toList args.toList ds p := hA0
  rw [Try.params10] at hA hval
  obtain ⟨v0, vs0, d0, ds0, p0, q0, hargs, rfl, rfl, h0, r0⟩ := trodAll_cons hA
  obtain ⟨v1, vs1, d1, ds1, p1, q1, rfl, rfl, rfl, h1, r1⟩ := trodAll_cons r0
  obtain ⟨v2, vs2, d2, ds2, p2, q2, rfl, rfl, rfl, h2, r2⟩ := trodAll_cons r1
  obtain ⟨v3, vs3, d3, ds3, p3, q3, rfl, rfl, rfl, h3, r3⟩ := trodAll_cons r2
  obtain ⟨rfl, rfl, rfl⟩ := trodAll_nil r3
  obtain rfl : args = #[v0, v1, v2, v3] := by cases args; simp_all
  obtain ⟨rfl, rfl⟩ := trodVars_none hV
  obtain ⟨a0, rfl, rfl, rfl, w0⟩ := open_int Try.underlying5 (hval 0 5 v0 rfl rfl) h0
  obtain ⟨a1, rfl, rfl, rfl⟩ := open_bool Try.underlying4 (hval 1 4 v1 rfl rfl) h1
  obtain ⟨cs2, rfl, sz2, rfl, lf2, rd2⟩ := open_flat (n := 9) (by kernel_rfl) (by kernel_rfl) (hval 2 29 v2 rfl rfl) h2
  obtain ⟨c2_0, e2_0, f2_0⟩ := lf2 0 (some .u64) (by kernel_rfl)
  obtain ⟨x2_0, rfl⟩ := fits_u64 f2_0
  obtain ⟨c2_1, e2_1, f2_1⟩ := lf2 1 (some .u64) (by kernel_rfl)
  obtain ⟨x2_1, rfl⟩ := fits_u64 f2_1
  obtain ⟨c2_2, e2_2, f2_2⟩ := lf2 2 (some .u64) (by kernel_rfl)
  obtain ⟨x2_2, rfl⟩ := fits_u64 f2_2
  obtain ⟨c2_3, e2_3, f2_3⟩ := lf2 3 (some .u64) (by kernel_rfl)
  obtain ⟨x2_3, rfl⟩ := fits_u64 f2_3
  obtain rfl : cs2 = #[.int .u64 (N x2_0), .int .u64 (N x2_1), .int .u64 (N x2_2), .int .u64 (N x2_3)] := array_of (l := [.int .u64 (N x2_0), .int .u64 (N x2_1), .int .u64 (N x2_2), .int .u64 (N x2_3)]) (sz2.trans (by kernel_rfl)) fun i hi => match i, hi with
    | 0, _ => e2_0 | 1, _ => e2_1 | 2, _ => e2_2 | 3, _ => e2_3 | k + 4, h => absurd h (Nat.not_lt.2 (Nat.le_add_left _ _))
  obtain ⟨cs3, rfl, sz3, rfl, lf3, rd3⟩ := open_flat (n := 9) (by kernel_rfl) (by kernel_rfl) (hval 3 29 v3 rfl rfl) h3
  obtain ⟨c3_0, e3_0, f3_0⟩ := lf3 0 (some .u64) (by kernel_rfl)
  obtain ⟨x3_0, rfl⟩ := fits_u64 f3_0
  obtain ⟨c3_1, e3_1, f3_1⟩ := lf3 1 (some .u64) (by kernel_rfl)
  obtain ⟨x3_1, rfl⟩ := fits_u64 f3_1
  obtain ⟨c3_2, e3_2, f3_2⟩ := lf3 2 (some .u64) (by kernel_rfl)
  obtain ⟨x3_2, rfl⟩ := fits_u64 f3_2
  obtain ⟨c3_3, e3_3, f3_3⟩ := lf3 3 (some .u64) (by kernel_rfl)
  obtain ⟨x3_3, rfl⟩ := fits_u64 f3_3
  obtain rfl : cs3 = #[.int .u64 (N x3_0), .int .u64 (N x3_1), .int .u64 (N x3_2), .int .u64 (N x3_3)] := array_of (l := [.int .u64 (N x3_0), .int .u64 (N x3_1), .int .u64 (N x3_2), .int .u64 (N x3_3)]) (sz3.trans (by kernel_rfl)) fun i hi => match i, hi with
    | 0, _ => e3_0 | 1, _ => e3_1 | 2, _ => e3_2 | 3, _ => e3_3 | k + 4, h => absurd h (Nat.not_lt.2 (Nat.le_add_left _ _))
  clear hA0 hval0
  simp only [List.append_nil] at hW'
  refine (factIf_walk a0 (u8_of w0) a1 ⟨⟨x2_0, x2_1⟩, ⟨x2_2, x2_3⟩⟩ ⟨⟨x3_0, x3_1⟩, ⟨x3_2, x3_3⟩⟩ W).mono fun e W' ⟨he, hb⟩ => ?_
  subst he
  exact ⟨_, rfl, post_below (pa := []) (pv := []) hW' (fun _ _ _ => (trodAll_cons_mk (shut_bool Try.underlying4 _) trodAll_mk0)) (fun sp hsp => (trodAll_cons_mk (shut_int Try.underlying5 w0) (trodAll_cons_mk (shut_bool Try.underlying4 a1) (trodAll_cons_mk (rd2 _ _ sp _) (trodAll_cons_mk (rd3 _ _ sp _) trodAll_mk0))))) (fun _ _ => rfl) rfl
    hb (ok_one (by kernel_rfl) rfl (okWide_bool_mk Try.underlying4 _))⟩
/-- The statement. -/
theorem proved : Rows.FactIfSaid :=
  OpenClaim.holds_of_wide 10 Try.f10 rfl rfl rfl rfl rfl rfl rfl ⟨rfl, rfl, rfl, rfl, rfl⟩ rfl rfl rfl rfl rfl (by kernel_rfl) Try.func10 (by kernel_rfl)
    (of_decide_eq_true (by kernel_rfl)) (by unfold Func.isWrapper; first | (rw [if_pos (by decide +kernel)]; kernel_rfl) | (rw [if_neg (by decide +kernel)]; exact ⟨rfl, rfl⟩))
    (fun os started H enc _ => lifted os started H enc)
#print axioms proved
end Go.Proofs.Ytmhkngblpojeaaa.factIf
