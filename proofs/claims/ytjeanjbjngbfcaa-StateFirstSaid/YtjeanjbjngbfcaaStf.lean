/- An argument that is a state of registers and the stack: its cells. No condition but those in each statement. -/
import Derived.Test.YtjeanjbjngbfcaaProg
import Derived.Test.YtjeanjbjngbfcaaGp
import Derived.Test.YtjeanjbjngbfcaaSt1
namespace Hk
open Go Go.RowKit Go.Proofs
set_option linter.unusedSimpArgs false
set_option linter.unusedVariables false
set_option maxRecDepth 100000
/-- what kind of number stands in a state's cell -/
def stKind (i : Nat) : IntKind := if i < 77 then (if i % 7 = 0 then .u8 else if i % 7 < 5 then .u64 else .i64) else (if (i - 77) % 8 = 0 ∨ (i - 77) % 8 = 7 then .u8 else if (i - 77) % 8 < 5 then .u64 else .i64)
theorem stLeaf : ((List.range 589).all fun i => decide (leafAt Try.prog 9 38 i = some (some (stKind i)))) = true := by kernel_rfl
def dI : Value → Int | .int _ x => x | _ => 0
def dW (v : Value) : BitVec 64 := BitVec.ofInt 64 (dI v)
def dB (v : Value) : BitVec 8 := BitVec.ofInt 8 (dI v)
def dV (f : Nat → Value) : Vl := ⟨dI (f 0), ⟨⟨dW (f 1), dW (f 2)⟩, ⟨dW (f 3), dW (f 4)⟩⟩, dI (f 5), dI (f 6)⟩
def dSt (cs : Array Value) : St := ⟨fun i => dV fun j => cs.getD (i * 7 + j) undef, fun i => ⟨dV fun j => cs.getD (77 + i * 8 + j) undef, dB (cs.getD (77 + i * 8 + 7) undef)⟩⟩
theorem dV_u8 {f : Nat → Value} (h : ∃ x, f 0 = .int .u8 x) : (dV f).cell 0 = f 0 := by
  obtain ⟨x, e⟩ := h; show Value.int .u8 (dI (f 0)) = _; rw [e]; rfl
theorem word_back {v : Value} (h : fits (some .u64) v) : Value.int .u64 (N (dW v)) = v := by
  obtain ⟨b, rfl⟩ := fits_u64 h
  show Value.int .u64 (N (BitVec.ofInt 64 (N b))) = _
  rw [ofInt_N]
theorem int_back {v : Value} {k : IntKind} (h : fits (some k) v) : Value.int k (dI v) = v := by
  obtain ⟨x, rfl, _⟩ := h; rfl
theorem byte_back {v : Value} (h : fits (some .u8) v) : Value.int .u8 (N8 (dB v)) = v := by
  obtain ⟨x, rfl, h0, h1⟩ := fits_u8 h
  show Value.int .u8 (N8 (BitVec.ofInt 8 x)) = _
  congr 1
  unfold N8
  rw [BitVec.toNat_ofInt]
  have p : ((2 ^ 8 : Nat) : Int) = 256 := by decide
  rw [p]
  omega
theorem dV_cell {f : Nat → Value} (h : ∀ j, j < 7 → fits (some (if j = 0 then .u8 else if j < 5 then .u64 else .i64)) (f j)) : ∀ j, j < 7 → (dV f).cell j = f j := by
  intro j hj
  match j, hj with
  | 0, _ => exact int_back (h 0 (by omega))
  | 1, _ => exact word_back (h 1 (by omega))
  | 2, _ => exact word_back (h 2 (by omega))
  | 3, _ => exact word_back (h 3 (by omega))
  | 4, _ => exact word_back (h 4 (by omega))
  | 5, _ => exact int_back (h 5 (by omega))
  | 6, _ => exact int_back (h 6 (by omega))
/-- cells that read as a state are a state's -/
theorem state_of {cs : Array Value} (hs : cs.size = 589) (h : ∀ (i : Nat) (lf : Option IntKind), leafAt Try.prog 9 38 i = some lf → ∃ c, cs[i]? = some c ∧ fits lf c) : ∃ s : St, cs = s.cells := by
  have hf : ∀ i, i < 589 → fits (some (stKind i)) (cs.getD i undef) := fun i hi => by
    have h1 := stLeaf
    rw [List.all_eq_true] at h1
    obtain ⟨c, h2, h3⟩ := h i _ (of_decide_eq_true (h1 i (by simpa using hi)))
    rw [Array.getD_eq_getD_getElem?, h2]
    exact h3
  refine ⟨dSt cs, ?_⟩
  apply Array.ext_getElem?
  intro i
  unfold St.cells
  rw [rowOf_get]
  by_cases hi : i < 589
  · rw [if_pos hi]
    have e : cs[i]? = some (cs.getD i undef) := by rw [Array.getD_eq_getD_getElem?, Array.getElem?_eq_getElem (by omega)]; rfl
    rw [e]
    congr 1
    unfold St.cell
    by_cases h7 : i < 77
    · rw [if_pos h7]
      have := dV_cell (f := fun j => cs.getD (i / 7 * 7 + j) undef) (fun j hj => by
        have h8 := hf (i / 7 * 7 + j) (by omega)
        unfold stKind at h8
        rw [if_pos (by omega), show (i / 7 * 7 + j) % 7 = j by omega] at h8
        exact h8) (i % 7) (by omega)
      simp only [show i / 7 * 7 + i % 7 = i by omega] at this
      exact this.symm
    · rw [if_neg h7]
      by_cases h6 : (i - 77) % 8 = 7
      · show _ = Sl.cell _ _
        unfold Sl.cell
        rw [if_pos h6]
        have h8 := hf i hi
        unfold stKind at h8
        rw [if_neg h7, if_pos (.inr h6)] at h8
        have := byte_back h8
        show _ = Value.int .u8 (N8 (dB (cs.getD (77 + (i - 77) / 8 * 8 + 7) undef)))
        rw [show 77 + (i - 77) / 8 * 8 + 7 = i by omega]
        exact this.symm
      · show _ = Sl.cell _ _
        unfold Sl.cell
        rw [if_neg h6]
        have := dV_cell (f := fun j => cs.getD (77 + (i - 77) / 8 * 8 + j) undef) (fun j hj => by
          have h8 := hf (77 + (i - 77) / 8 * 8 + j) (by omega)
          unfold stKind at h8
          rw [if_neg (by omega), show (77 + (i - 77) / 8 * 8 + j - 77) % 8 = j by omega] at h8
          have e0 : (j = 0 ∨ j = 7) = (j = 0) := propext ⟨fun h => h.elim id (fun h => by omega), .inl⟩
          simp only [e0] at h8
          exact h8) ((i - 77) % 8) (by omega)
        simp only [show 77 + (i - 77) / 8 * 8 + (i - 77) % 8 = i by omega] at this
        exact this.symm
  · rw [if_neg hi, Array.getElem?_eq_none (by omega)]

end Hk
