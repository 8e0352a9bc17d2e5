/- A number that may be one of two facts may be their Join, both are within it, and the lowest 32 bits of it may be its Cut (the given statement FactJoins). No condition: for every input. -/
import Derived.Test.YtmhkngblpojeaaaRows
import Derived.Test.YtmhkngblpojeaaaGp
import Derived.Test.YtmhkngblpojeaaaFl3
import Derived.ProofKit
import Derived.OpenShut
import Derived.Lib.SmallJoins
namespace Go.Proofs.Ytmhkngblpojeaaa.factJoins
open Go.ChangeShapes Go.WideShapes Go.ChangeAt Go.RowKit Go.Joins Hk
set_option linter.unusedVariables false
set_option linter.unusedSimpArgs false
theorem own : ownKnob Try.prog.godebug = none := by kernel_rfl
set_option maxRecDepth 100000 in
theorem lifted (os : Os) (started : os.Started) (H : Type) (enc : TypeId × Value → H) :
    ReturnsInHanded {} Try.checked os 8 .any (Rows.factJoinsSpec.pre6 enc Try.prog Try.f8 Rows.factJoinsRow.domain false) (Rows.factJoinsSpec.post enc Try.prog Try.f8 false true false false) := by
  refine returnsInHanded_of_change (C := Try.checked) own started (by kernel_rfl) Try.func8
    (ChangeSpec.witness6 (enc := enc) (C := Try.checked) false ⟨#[], #[.agg #[.int .u64 0, .int .u64 0, .int .u64 0, .int .u64 0, .int .u64 0, .int .u64 0, .int .u64 0, .int .u64 0]], []⟩ 8 (by kernel_rfl) (by kernel_rfl) (by kernel_rfl) (by kernel_rfl)) ?_
  intro W base args ds gs before hval0 hW hcnd _
  have hval : ∀ (j : Nat) t v, Try.f8.params[j]? = some t → args[j]? = some v → Value.okWide Try.prog W .any base t v := hval0
  have hW' := hW
  obtain ⟨p, q, hA0, hV, rfl, hfz, hnd⟩ := hW
  have hA : DataW.TrodAll enc Try.prog W 0 (fun _ => true) true Try.f8.params.toList args.toList ds p := hA0
  rw [Try.params8] at hA hval
  obtain ⟨v0, vs0, d0, ds0, p0, q0, hargs, rfl, rfl, h0, r0⟩ := trodAll_cons hA
  obtain ⟨rfl, rfl, rfl⟩ := trodAll_nil r0
  obtain rfl : args = #[v0] := by cases args; simp_all
  obtain ⟨rfl, rfl⟩ := trodVars_none hV
  obtain ⟨cs0, rfl, sz0, rfl, lf0, rd0⟩ := open_flat (n := 9) (by kernel_rfl) (by kernel_rfl) (hval 0 39 v0 rfl rfl) h0
  obtain ⟨c0_0, e0_0, f0_0⟩ := lf0 0 (some .u64) (by kernel_rfl)
  obtain ⟨x0_0, rfl⟩ := fits_u64 f0_0
  obtain ⟨c0_1, e0_1, f0_1⟩ := lf0 1 (some .u64) (by kernel_rfl)
  obtain ⟨x0_1, rfl⟩ := fits_u64 f0_1
  obtain ⟨c0_2, e0_2, f0_2⟩ := lf0 2 (some .u64) (by kernel_rfl)
  obtain ⟨x0_2, rfl⟩ := fits_u64 f0_2
  obtain ⟨c0_3, e0_3, f0_3⟩ := lf0 3 (some .u64) (by kernel_rfl)
  obtain ⟨x0_3, rfl⟩ := fits_u64 f0_3
  obtain ⟨c0_4, e0_4, f0_4⟩ := lf0 4 (some .u64) (by kernel_rfl)
  obtain ⟨x0_4, rfl⟩ := fits_u64 f0_4
  obtain ⟨c0_5, e0_5, f0_5⟩ := lf0 5 (some .u64) (by kernel_rfl)
  obtain ⟨x0_5, rfl⟩ := fits_u64 f0_5
  obtain ⟨c0_6, e0_6, f0_6⟩ := lf0 6 (some .u64) (by kernel_rfl)
  obtain ⟨x0_6, rfl⟩ := fits_u64 f0_6
  obtain ⟨c0_7, e0_7, f0_7⟩ := lf0 7 (some .u64) (by kernel_rfl)
  obtain ⟨x0_7, rfl⟩ := fits_u64 f0_7
  obtain rfl : cs0 = #[.int .u64 (N x0_0), .int .u64 (N x0_1), .int .u64 (N x0_2), .int .u64 (N x0_3), .int .u64 (N x0_4), .int .u64 (N x0_5), .int .u64 (N x0_6), .int .u64 (N x0_7)] := array_of (l := [.int .u64 (N x0_0), .int .u64 (N x0_1), .int .u64 (N x0_2), .int .u64 (N x0_3), .int .u64 (N x0_4), .int .u64 (N x0_5), .int .u64 (N x0_6), .int .u64 (N x0_7)]) (sz0.trans (by kernel_rfl)) fun i hi => match i, hi with
    | 0, _ => e0_0 | 1, _ => e0_1 | 2, _ => e0_2 | 3, _ => e0_3 | 4, _ => e0_4 | 5, _ => e0_5 | 6, _ => e0_6 | 7, _ => e0_7 | k + 8, h => absurd h (Nat.not_lt.2 (Nat.le_add_left _ _))
  clear hA0 hval0
  simp only [List.append_nil] at hW'
  refine (factJoins_walk x0_0 x0_1 x0_2 x0_3 x0_4 x0_5 x0_6 x0_7 W).mono fun e W' ⟨he, hb⟩ => ?_
  subst he
  exact ⟨_, rfl, post_below (pa := []) (pv := []) hW' (fun _ _ _ => (trodAll_cons_mk (shut_bool Try.underlying4 _) trodAll_mk0)) (fun sp _ => (trodAll_cons_mk (rd0 _ _ sp _) trodAll_mk0)) (fun _ _ => rfl) rfl
    hb (ok_one (by kernel_rfl) rfl (okWide_bool_mk Try.underlying4 _))⟩
/-- The statement. -/
theorem proved : Rows.FactJoinsSaid :=
  OpenClaim.holds_of_wide 8 Try.f8 rfl rfl rfl rfl rfl rfl rfl ⟨rfl, rfl, rfl, rfl, rfl⟩ rfl rfl rfl rfl rfl (by kernel_rfl) Try.func8 (by kernel_rfl)
    (of_decide_eq_true (by kernel_rfl)) (by unfold Func.isWrapper; first | (rw [if_pos (by decide +kernel)]; kernel_rfl) | (rw [if_neg (by decide +kernel)]; exact ⟨rfl, rfl⟩))
    (fun os started H enc _ => lifted os started H enc)
#print axioms proved
end Go.Proofs.Ytmhkngblpojeaaa.factJoins
