/- An argument that is a slice of structs of numbers and bools alone, opened: its cells, and how it reads where old memory is as it was. No condition but those in each statement. -/
import Derived.Test.YtjeanjbjngbfcaaGp
import Derived.Deep.Slices
import Derived.ChangeSame
import Derived.ChangeSlices
namespace Hk
open Go Go.ChangeShapes Go.WideShapes Go.RowKit Go.Deep
set_option linter.unusedVariables false
section
variable {H : Type} {enc : TypeId × Value → H} {P : Program}
theorem cells_below {w w' : World} {a : Addr} {n base : Nat} (hb : Below w.heap.size w w') (h : a.block < w.heap.size) : w'.cells? base a n = w.cells? base a n := by
  unfold World.cells?
  have e : (fun i => w'.cell? (a.add i)) = fun i => w.cell? (a.add i) := by
    funext i
    refine hb.cell ?_
    unfold Addr.add
    split
    · exact h
    · exact h
  rw [e]
theorem add_plain (b o n : Nat) : (⟨b, o, none⟩ : Addr).add n = ⟨b, o + n, none⟩ := by unfold Addr.add; split <;> simp_all
theorem open_flats {n : Nat} {t e : TypeId} (ht : P.underlying t = some (.slice e)) (hf : flat P n e = true) (hC : 0 < P.cellsOf e) {w : World} {b0 : Nat} {r : Reach} {v : Value} {d : DataW H} {ps : List MemPlace}
    (hv : Value.okWide P w r b0 t v) (h : DataW.Trod enc P w 0 (fun _ => true) true t v d ps) (hlt : ∀ p ∈ ps, p.block < w.heap.size) :
    ∃ (p : Option Addr) (len cap : Nat), v = .slice p len cap ∧ len ≤ 9223372036854775807 ∧
      (∀ i, i < len → ∃ b o, p = some ⟨b, o, none⟩ ∧ ∃ cs : List Value, cs.length = P.cellsOf e ∧ (∀ j, j < P.cellsOf e → w.cell? ⟨b, o + i * P.cellsOf e + j, none⟩ = cs[j]?) ∧ ∀ j lf, leafAt P n e j = some lf → ∃ c, cs[j]? = some c ∧ fits lf c) ∧
      ∀ (w' : World) (sp' : Nat → Bool), Below w.heap.size w w' → (∀ p ∈ ps, sp' p.block = true) → DataW.Trod enc P w' 0 sp' true t v d ps := by
  obtain ⟨a, len, cap, rfl⟩ := okWide_slice ht hv
  obtain ⟨fuel, hx⟩ := h
  rcases open_slice ht hx with ⟨h0, h1⟩ | ⟨a', len', cap', m, n', D, Pl, hcs, hb, hl, hm, hmm, hxx, hi⟩
  · obtain ⟨rfl, rfl, rfl⟩ : a = none ∧ len = 0 ∧ cap = 0 := by simpa [Value.cells] using h0
    simp only [Prod.mk.injEq] at h1
    obtain ⟨rfl, rfl⟩ := h1
    exact ⟨none, 0, 0, rfl, by decide, fun i hi => absurd hi (by omega), fun w' sp' _ _ => shut_slice_nil ht⟩
  · obtain ⟨rfl, rfl, rfl⟩ : a = some a' ∧ len = len' ∧ cap = cap' := by simpa [Value.cells] using hcs
    simp only [if_true] at hmm
    subst hmm
    simp only [Prod.mk.injEq] at hxx
    obtain ⟨rfl, rfl⟩ := hxx
    have hPl : ∀ i, i < m → Pl i = [] ∧ ∃ cs', w.cells? 0 (a'.add (i * P.cellsOf e)) (P.cellsOf e) = some cs' ∧ DataW.trod enc P w 0 (fun _ => true) true n' e cs' = some (D i, Pl i) := fun i him => by
      obtain ⟨cs', h1, h2⟩ := hi i him
      exact ⟨(trod_flat n e hf _ _ _ _ _ _ _ h2).1, cs', h1, h2⟩
    have hblk : 0 < m → MemPlace.cell a'.block (a'.off + 0) ∈ MemPlace.row a' (m * P.cellsOf e) ++ List.flatMap Pl (List.range m) := fun hm0 => by
      rw [List.mem_append]
      left
      unfold MemPlace.row
      rw [List.mem_map]
      exact ⟨0, by simpa using Nat.mul_pos hm0 hC, rfl⟩
    refine ⟨some a', len, m, rfl, by unfold maxLen at hm; omega, fun i hil => ?_, fun w' sp' hB hsp => ?_⟩
    · have hsn : a'.spot = none := by
        obtain ⟨_, cs', h1, _⟩ := hPl 0 (by omega)
        obtain ⟨_, h2, h3⟩ := World.cells?_some h1
        have h4 := h3 0 hC
        rw [List.getElem?_eq_getElem (by omega)] at h4
        simp only [Nat.zero_mul] at h4
        have h5 : (a'.add 0).add 0 = a' := rfl
        rw [h5] at h4
        cases hs : a'.spot with
        | none => rfl
        | some x =>
          unfold World.cell? at h4
          simp only [hs, Option.isSome_some, if_true] at h4
          split at h4 <;> cases h4
      obtain ⟨b, o, s⟩ := a'
      simp only at hsn
      subst hsn
      obtain ⟨_, cs', h1, h2⟩ := hPl i (by omega)
      obtain ⟨_, h3, h4⟩ := World.cells?_some h1
      refine ⟨b, o, rfl, cs', h3, fun j hj => ?_, fun j lf hlf => trod_leaf n e j lf hlf _ _ _ _ _ _ _ h2⟩
      have := h4 j hj
      rwa [add_plain, add_plain] at this
    · by_cases hm0 : 0 < m
      · have hmem := hblk hm0
        have hlt' := hlt _ hmem
        have hsp' := hsp _ hmem
        refine shut_slice_whole ht (Nat.zero_le _) hl hm hsp' D Pl fun i him => ?_
        obtain ⟨_, cs', h1, h2⟩ := hPl i him
        refine ⟨cs', n', ?_, (trod_flat n e hf _ _ _ _ _ _ _ h2).2 _ _ _ _⟩
        rw [cells_below hB ?_]
        · exact h1
        · unfold Addr.add
          split
          · exact hlt'
          · exact hlt'
      · obtain rfl : m = 0 := by omega
        obtain rfl : len = 0 := by omega
        cases hs : sp' a'.block
        · have := shut_slice (enc := enc) (w := w') (base := 0) (spare := sp') (held := true) (a := a') (len := 0) (cap := 0) ht (Nat.zero_le _) (Nat.le_refl _) hm hs D Pl (fun i hi => absurd hi (by omega))
          exact this
        · exact shut_slice_whole ht (Nat.zero_le _) (Nat.le_refl _) hm hs D Pl fun i hi => absurd hi (by omega)
end
end Hk
