/- An argument that is a slice of acts: what stands in memory. No condition but those in each statement. -/
import Derived.Test.YtjeanjbjngbfcaaProg
import Derived.Test.YtjeanjbjngbfcaaGp
import Derived.Test.YtjeanjbjngbfcaaGz
import Derived.Test.YtjeanjbjngbfcaaGu
import Derived.Test.YtjeanjbjngbfcaaStf
namespace Hk
open Go Go.RowKit Go.Proofs
set_option linter.unusedSimpArgs false
set_option linter.unusedVariables false
set_option maxRecDepth 100000
theorem u16_of {x : Int} (h : (Lit.int .u16 x).wf = true) : 0 ≤ x ∧ x ≤ 65535 := by
  simp [Lit.wf, IntKind.min, IntKind.max, IntKind.signed, IntKind.bits] at h; omega
/-- ten cells that read as an act are one -/
theorem ac_of {cs : List Value} (h : ∀ j lf, leafAt Try.prog 9 46 j = some lf → ∃ c, cs[j]? = some c ∧ fits lf c) : ∃ a : Ac, a.right ∧ ∀ j, j < 10 → cs[j]? = some (a.cell j) := by
  obtain ⟨c0, e0, f0⟩ := h 0 (some .u8) (by kernel_rfl)
  obtain ⟨x0, rfl, l0⟩ := fits_u8 f0
  obtain ⟨c1, e1, f1⟩ := h 1 (some .i64) (by kernel_rfl)
  obtain ⟨x1, rfl, l1⟩ := fits_i64 f1
  obtain ⟨c2, e2, f2⟩ := h 2 (some .i64) (by kernel_rfl)
  obtain ⟨x2, rfl, l2⟩ := fits_i64 f2
  obtain ⟨c3, e3, f3⟩ := h 3 (some .u8) (by kernel_rfl)
  obtain ⟨x3, rfl, l3⟩ := fits_u8 f3
  obtain ⟨c4, e4, f4⟩ := h 4 (some .u64) (by kernel_rfl)
  obtain ⟨x4, rfl⟩ := fits_u64 f4
  obtain ⟨c5, e5, f5⟩ := h 5 (some .u64) (by kernel_rfl)
  obtain ⟨x5, rfl⟩ := fits_u64 f5
  obtain ⟨c6, e6, f6⟩ := h 6 (some .u64) (by kernel_rfl)
  obtain ⟨x6, rfl⟩ := fits_u64 f6
  obtain ⟨c7, e7, f7⟩ := h 7 (some .u64) (by kernel_rfl)
  obtain ⟨x7, rfl⟩ := fits_u64 f7
  obtain ⟨c8, e8, f8⟩ := h 8 (some .i64) (by kernel_rfl)
  obtain ⟨x8, rfl, l8⟩ := fits_i64 f8
  obtain ⟨c9, e9, f9⟩ := h 9 (some .i64) (by kernel_rfl)
  obtain ⟨x9, rfl, l9⟩ := fits_i64 f9
  refine ⟨⟨x0, x1, x2, ⟨x3, ⟨⟨x4, x5⟩, ⟨x6, x7⟩⟩, x8, x9⟩⟩, ⟨l0, l1, l2⟩, fun j hj => ?_⟩
  match j, hj with
  | 0, _ => exact e0
  | 1, _ => exact e1
  | 2, _ => exact e2
  | 3, _ => exact e3
  | 4, _ => exact e4
  | 5, _ => exact e5
  | 6, _ => exact e6
  | 7, _ => exact e7
  | 8, _ => exact e8
  | 9, _ => exact e9
  | k + 10, h => exact absurd h (by omega)
theorem acts_of {w : World} {p : Option Addr} {len C : Nat} (hC : C = 10) (h : ∀ i, i < len → ∃ b o, p = some ⟨b, o, none⟩ ∧ ∃ cs : List Value, cs.length = C ∧ (∀ j, j < C → w.cell? ⟨b, o + i * C + j, none⟩ = cs[j]?) ∧ ∀ j lf, leafAt Try.prog 9 46 j = some lf → ∃ c, cs[j]? = some c ∧ fits lf c) : ∃ L : Nat → Ac, Acts w p len L := by
  subst hC
  have h2 : ∀ i, ∃ a : Ac, i < len → ∃ b o, p = some ⟨b, o, none⟩ ∧ a.right ∧ ∀ j, j < 10 → w.cell? ⟨b, o + i * 10 + j, none⟩ = some (a.cell j) := fun i => by
    by_cases hi : i < len
    · obtain ⟨b, o, hp, cs, _, hc, hf⟩ := h i hi
      obtain ⟨a, ha, hac⟩ := ac_of hf
      exact ⟨a, fun _ => ⟨b, o, hp, ha, fun j hj => (hc j hj).trans (hac j hj)⟩⟩
    · exact ⟨⟨0, 0, 0, Vl.zero⟩, fun h => absurd h hi⟩
  exact ⟨fun i => Classical.choose (h2 i), fun i hi => Classical.choose_spec (h2 i) hi⟩

end Hk
