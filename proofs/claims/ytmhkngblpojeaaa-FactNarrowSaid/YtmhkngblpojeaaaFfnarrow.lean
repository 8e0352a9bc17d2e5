/- What narrow arithmetic makes is known to be below 2^32, and of numbers that are known what it makes is known (the given statement FactNarrow). No condition: for every input. -/
import Derived.Test.YtmhkngblpojeaaaRows
import Derived.Test.YtmhkngblpojeaaaGp
import Derived.Test.YtmhkngblpojeaaaFl5
import Derived.ProofKit
import Derived.OpenShut
import Derived.Lib.SmallJoins
namespace Go.Proofs.Ytmhkngblpojeaaa.factNarrow
open Go.ChangeShapes Go.WideShapes Go.ChangeAt Go.RowKit Go.Joins Hk
set_option linter.unusedVariables false
set_option linter.unusedSimpArgs false
theorem own : ownKnob Try.prog.godebug = none := by kernel_rfl
set_option maxRecDepth 100000 in
theorem lifted (os : Os) (started : os.Started) (H : Type) (enc : TypeId × Value → H) :
    ReturnsInHanded {} Try.checked os 4 .any (Rows.factNarrowSpec.pre6 enc Try.prog Try.f4 Rows.factNarrowRow.domain false) (Rows.factNarrowSpec.post enc Try.prog Try.f4 false true false false) := by
  refine returnsInHanded_of_change (C := Try.checked) own started (by kernel_rfl) Try.func4
    (ChangeSpec.witness6 (enc := enc) (C := Try.checked) false ⟨#[], #[.int .u8 0, .int .i16 0, .bool false, .agg #[.int .u64 0, .int .u64 0, .int .u64 0, .int .u64 0, .int .u64 0, .int .u64 0, .int .u64 0, .int .u64 0]], []⟩ 8 (by kernel_rfl) (by kernel_rfl) (by kernel_rfl) (by kernel_rfl)) ?_
  intro W base args ds gs before hval0 hW hcnd _
  have hval : ∀ (j : Nat) t v, Try.f4.params[j]? = some t → args[j]? = some v → Value.okWide Try.prog W .any base t v := hval0
  have hW' := hW
  obtain ⟨p, q, hA0, hV, rfl, hfz, hnd⟩ := hW
  have hA : DataW.TrodAll enc Try.prog W 0 (fun _ => true) true Try.f4.params.toList args.toList ds p := hA0
  rw [Try.params4] at hA hval
  obtain ⟨v0, vs0, d0, ds0, p0, q0, hargs, rfl, rfl, h0, r0⟩ := trodAll_cons hA
  obtain ⟨v1, vs1, d1, ds1, p1, q1, rfl, rfl, rfl, h1, r1⟩ := trodAll_cons r0
  obtain ⟨v2, vs2, d2, ds2, p2, q2, rfl, rfl, rfl, h2, r2⟩ := trodAll_cons r1
  obtain ⟨v3, vs3, d3, ds3, p3, q3, rfl, rfl, rfl, h3, r3⟩ := trodAll_cons r2
  obtain ⟨rfl, rfl, rfl⟩ := trodAll_nil r3
  obtain rfl : args = #[v0, v1, v2, v3] := by cases args; simp_all
  obtain ⟨rfl, rfl⟩ := trodVars_none hV
  obtain ⟨a0, rfl, rfl, rfl, w0⟩ := open_int Try.underlying5 (hval 0 5 v0 rfl rfl) h0
  obtain ⟨a1, rfl, rfl, rfl, w1⟩ := open_int Try.underlying22 (hval 1 22 v1 rfl rfl) h1
  obtain ⟨a2, rfl, rfl, rfl⟩ := open_bool Try.underlying4 (hval 2 4 v2 rfl rfl) h2
  obtain ⟨cs3, rfl, sz3, rfl, lf3, rd3⟩ := open_flat (n := 9) (by kernel_rfl) (by kernel_rfl) (hval 3 39 v3 rfl rfl) h3
  obtain ⟨c3_0, e3_0, f3_0⟩ := lf3 0 (some .u64) (by kernel_rfl)
  obtain ⟨x3_0, rfl⟩ := fits_u64 f3_0
  obtain ⟨c3_1, e3_1, f3_1⟩ := lf3 1 (some .u64) (by kernel_rfl)
  obtain ⟨x3_1, rfl⟩ := fits_u64 f3_1
  obtain ⟨c3_2, e3_2, f3_2⟩ := lf3 2 (some .u64) (by kernel_rfl)
  obtain ⟨x3_2, rfl⟩ := fits_u64 f3_2
  obtain ⟨c3_3, e3_3, f3_3⟩ := lf3 3 (some .u64) (by kernel_rfl)
  obtain ⟨x3_3, rfl⟩ := fits_u64 f3_3
  obtain ⟨c3_4, e3_4, f3_4⟩ := lf3 4 (some .u64) (by kernel_rfl)
  obtain ⟨x3_4, rfl⟩ := fits_u64 f3_4
  obtain ⟨c3_5, e3_5, f3_5⟩ := lf3 5 (some .u64) (by kernel_rfl)
  obtain ⟨x3_5, rfl⟩ := fits_u64 f3_5
  obtain ⟨c3_6, e3_6, f3_6⟩ := lf3 6 (some .u64) (by kernel_rfl)
  obtain ⟨x3_6, rfl⟩ := fits_u64 f3_6
  obtain ⟨c3_7, e3_7, f3_7⟩ := lf3 7 (some .u64) (by kernel_rfl)
  obtain ⟨x3_7, rfl⟩ := fits_u64 f3_7
  obtain rfl : cs3 = #[.int .u64 (N x3_0), .int .u64 (N x3_1), .int .u64 (N x3_2), .int .u64 (N x3_3), .int .u64 (N x3_4), .int .u64 (N x3_5), .int .u64 (N x3_6), .int .u64 (N x3_7)] := array_of (l := [.int .u64 (N x3_0), .int .u64 (N x3_1), .int .u64 (N x3_2), .int .u64 (N x3_3), .int .u64 (N x3_4), .int .u64 (N x3_5), .int .u64 (N x3_6), .int .u64 (N x3_7)]) (sz3.trans (by kernel_rfl)) fun i hi => match i, hi with
    | 0, _ => e3_0 | 1, _ => e3_1 | 2, _ => e3_2 | 3, _ => e3_3 | 4, _ => e3_4 | 5, _ => e3_5 | 6, _ => e3_6 | 7, _ => e3_7 | k + 8, h => absurd h (Nat.not_lt.2 (Nat.le_add_left _ _))
  clear hA0 hval0
  simp only [List.append_nil] at hW'
  refine (factNarrow_walk a0 (u8_of w0) a1 (i16_of w1) a2 x3_0 x3_1 x3_2 x3_3 x3_4 x3_5 x3_6 x3_7 W).mono fun e W' ⟨he, hb⟩ => ?_
  subst he
  exact ⟨_, rfl, post_below (pa := []) (pv := []) hW' (fun _ _ _ => (trodAll_cons_mk (shut_bool Try.underlying4 _) trodAll_mk0)) (fun sp _ => (trodAll_cons_mk (shut_int Try.underlying5 w0) (trodAll_cons_mk (shut_int Try.underlying22 w1) (trodAll_cons_mk (shut_bool Try.underlying4 a2) (trodAll_cons_mk (rd3 _ _ sp _) trodAll_mk0))))) (fun _ _ => rfl) rfl
    hb (ok_one (by kernel_rfl) rfl (okWide_bool_mk Try.underlying4 _))⟩
/-- The statement. -/
theorem proved : Rows.FactNarrowSaid :=
  OpenClaim.holds_of_wide 4 Try.f4 rfl rfl rfl rfl rfl rfl rfl ⟨rfl, rfl, rfl, rfl, rfl⟩ rfl rfl rfl rfl rfl (by kernel_rfl) Try.func4 (by kernel_rfl)
    (of_decide_eq_true (by kernel_rfl)) (by unfold Func.isWrapper; first | (rw [if_pos (by decide +kernel)]; kernel_rfl) | (rw [if_neg (by decide +kernel)]; exact ⟨rfl, rfl⟩))
    (fun os started H enc _ => lifted os started H enc)
#print axioms proved
end Go.Proofs.Ytmhkngblpojeaaa.factNarrow
