/- A great block of memory, as one array: what a load and a store of a part of it do, as rules of the walk. No condition but those in each statement. -/
import Derived.Test.YtjeanjbjngbfcaaSt
import Derived.Test.YtjeanjbjngbfcaaGp
import Derived.Laws.Rows
import Derived.Laws.Tables
namespace Hk
set_option linter.unusedVariables false
set_option linter.unusedSimpArgs false
open Go Go.RowKit
/-- a block's cells -/
def blk (w : World) (b : Nat) : Array Value := match w.heap[b]? with | some (.cells c _ _) => c | _ => #[]
/-- the same, kept from the rules of simp -/
def rawB (w : World) (b : Nat) : Array Value := blk w b
def rawRun (P : Program) {α : Type} (s : Sem α) (w : World) : Result α := s.run P w
def rawE (c : Array Value) (o n : Nat) : Array Value := c.extract o (o + n)
def rawG (c : Array Value) (k : Nat) : Option Value := c[k]?
theorem blk_cell (w : World) (b i : Nat) : w.cell? ⟨b, i, none⟩ = (blk w b)[i]? := by
  unfold World.cell? blk
  simp only
  split <;> simp_all
theorem blk_lt {w : World} {b : Nat} (h : (blk w b).size ≠ 0) : b < w.heap.size := by
  apply Classical.byContradiction
  intro hn
  have e : w.heap[b]? = none := by simp; omega
  apply h
  unfold blk
  rw [e]; rfl
theorem blk_some {w : World} {b : Nat} (h : (blk w b).size ≠ 0) : ∃ t fr, w.heap[b]? = some (.cells (blk w b) t fr) := by
  unfold blk at h ⊢
  split at h
  · rename_i c t fr e
    exact ⟨t, fr, by rw [e]⟩
  · exact absurd rfl h
theorem blk_of {w : World} {b : Nat} {c : Array Value} {t : TypeId} {fr : Nat × Nat} (h : w.heap[b]? = some (.cells c t fr)) : blk w b = c := by
  unfold blk; rw [h]
@[go_sem] theorem blk_alloc (w : World) (c : Array Value) (t : TypeId) (n : Nat) : blk (w.alloc (.cells c t)) n = if n < w.heap.size then blk w n else if n = w.heap.size then c else rawB (w.alloc (.cells c t)) n := by
  split
  · rename_i h
    unfold blk
    have e : (w.alloc (.cells c t)).heap[n]? = w.heap[n]? := by
      show (w.heap.push (.cells c t))[n]? = w.heap[n]?
      rw [Array.getElem?_push, if_neg (Nat.ne_of_lt h)]
    rw [e]
  · split
    · rename_i h1 h2; subst h2; exact blk_of (heap_alloc_new w _)
    · rfl
@[go_sem] theorem blk_drew (w : World) (n : Nat) : blk w.drew n = blk w n := rfl
theorem frozen_drewB (w : World) (a : Addr) : w.drew.frozen? a = w.frozen? a := rfl
@[go_sem] theorem blk_setCell (w : World) (b i : Nat) (v : Value) (n : Nat) : blk (w.setCell ⟨b, i, none⟩ v) n = if n = b then (blk w b).setIfInBounds i v else blk w n := by
  by_cases h : n = b
  · subst h
    rw [if_pos rfl]
    unfold blk World.setCell
    simp only [Array.getElem?_modify, if_true]
    cases w.heap[n]? with
    | none => simp
    | some o => cases o <;> simp
  · rw [if_neg h]
    unfold blk
    rw [heap_setCell_other w _ n v h]
@[go_sem] theorem blk_setRow (w : World) (b : Nat) (c : Array Value) (n : Nat) : blk (w.setRow b c) n = if n = b then (if (blk w b).size = 0 then rawB (w.setRow b c) n else c) else blk w n := by
  by_cases h : n = b
  · subst h
    rw [if_pos rfl]
    split
    · rfl
    · rename_i h0
      obtain ⟨t, fr, e⟩ := blk_some h0
      exact blk_of (setRow_heap w n _ c t fr e)
  · rw [if_neg h]
    unfold blk
    rw [setRow_other w b n c h]
@[go_sem] theorem cell_setRow_if (w : World) (b : Nat) (c : Array Value) (n i : Nat) : (w.setRow b c).cell? ⟨n, i, none⟩ = if n = b then (if (blk w b).size = 0 then raw (w.setRow b c) n i else c[i]?) else w.cell? ⟨n, i, none⟩ := by
  by_cases h : n = b
  · rw [if_pos h]
    subst h
    split
    · rfl
    · rename_i h0
      rw [blk_cell, blk_setRow, if_pos rfl, if_neg h0]
  · rw [if_neg h, cell_setRow_other w b c _ h]
@[go_sem] theorem frozen_setRow (w : World) (b : Nat) (c : Array Value) (a : Addr) : (w.setRow b c).frozen? a = w.frozen? a := by
  unfold World.frozen? World.setRow
  simp only [Array.getElem?_modify]
  by_cases h : b = a.block
  · rw [if_pos h]
    cases w.heap[a.block]? with
    | none => rfl
    | some o => cases o <;> rfl
  · rw [if_neg h]
/-- old blocks behind a call -/
theorem bblk {W w1 : World} (hb : Below W.heap.size W w1) : ∀ b, blk w1 b = if b < W.heap.size then blk W b else rawB w1 b := fun b => by
  split
  · rename_i h; unfold blk; rw [hb.block b h]
  · rfl
theorem blk_keep {w w1 : World} {b : Nat} {c : Array Value} (hb : Below w.heap.size w w1) (h : blk w b = c) (hc : c.size ≠ 0) : blk w1 b = c := by
  have hlt : b < w.heap.size := blk_lt (by rw [h]; exact hc)
  rw [bblk hb, if_pos hlt, h]
theorem below_setRow {B b : Nat} {a w : World} {c : Array Value} (h : Below B a w) (hb : B ≤ b) : Below B a (w.setRow b c) :=
  h.trans ⟨rfl, rfl, rfl, by simp, fun k hk => setRow_other w b k c (by omega)⟩
section
variable {P : Program}
theorem run_loadVar_blk (w : World) (ty : TypeId) (b off n : Nat) (hagg : (isAgg ty).run P w = .ok true w) (hn : (Go.sizeOf ty).run P w = .ok n w) (h : off + n ≤ (blk w b).size) :
    (loadVar ty ⟨b, off, none⟩).run P w = .ok (.agg ((blk w b).extract off (off + n))) w := by
  have hl := run_loadCells (P := P) w ⟨b, off, none⟩ n (fun j => (blk w b).getD (off + j) undef) (fun j hj => by
    have hadd : (⟨b, off, none⟩ : Addr).add j = ⟨b, off + j, none⟩ := by unfold Addr.add; split <;> simp_all
    rw [hadd, blk_cell, Array.getD_eq_getD_getElem?, Array.getElem?_eq_getElem (by omega)]
    rfl)
  simp only [loadVar, Sem.run_bind, hagg, hn, hl, Result.andThen, if_true, Sem.run_pure]
  congr 2
  apply Array.ext_getElem?
  intro i
  rw [List.getElem?_toArray, List.getElem?_map, Array.getElem?_extract]
  by_cases hi : i < n
  · rw [List.getElem?_range hi, if_pos (by omega), Option.map_some, Array.getD_eq_getD_getElem?, Array.getElem?_eq_getElem (show off + i < (blk w b).size by omega)]
    rfl
  · rw [if_neg (by omega), List.getElem?_eq_none (by simpa using hi)]
    rfl
theorem run_storeCells_blk (b off : Nat) : ∀ (vs : List Value) (i : Nat) (w : World), (∀ v ∈ vs, v.oneCell' = true) → off + i + vs.length ≤ (blk w b).size → (∀ k, w.frozen? ⟨b, k, none⟩ = false) →
    (storeCells ⟨b, off, none⟩ vs i).run P w = .ok () (w.setRow b (rowOf (blk w b).size fun k => if off + i ≤ k ∧ k < off + i + vs.length then vs.getD (k - (off + i)) undef else (blk w b).getD k undef))
  | [], i, w, _, hl, _ => by
    simp only [storeCells]
    show Result.ok () w = _
    have e : (rowOf (blk w b).size fun k => if off + i ≤ k ∧ k < off + i + ([] : List Value).length then ([] : List Value).getD (k - (off + i)) undef else (blk w b).getD k undef) = blk w b := by
      apply Array.ext_getElem?
      intro k
      rw [rowOf_get]
      by_cases hk : k < (blk w b).size
      · rw [if_pos hk, if_neg (by rintro ⟨h1, h2⟩; simp only [List.length_nil] at h2; omega), Array.getD_eq_getD_getElem?, Array.getElem?_eq_getElem hk]; rfl
      · rw [if_neg hk, Array.getElem?_eq_none (by omega)]
    rw [e]
    congr 1
    unfold World.setRow
    cases w with
    | mk heap tape drawn os output =>
      congr 1
      apply Array.ext_getElem?
      intro k
      rw [Array.getElem?_modify]
      split
      · rename_i hk
        subst hk
        unfold blk
        cases heap[b]? with
        | none => rfl
        | some o => cases o <;> rfl
      · rfl
  | v :: rest, i, w, h1, hl, hfz => by
    simp only [List.length_cons] at hl
    have hadd : (⟨b, off, none⟩ : Addr).add i = ⟨b, off + i, none⟩ := by unfold Addr.add; split <;> simp_all
    have hcell : w.cell? ⟨b, off + i, none⟩ = some ((blk w b)[off + i]'(by omega)) := by rw [blk_cell, Array.getElem?_eq_getElem (by omega)]
    have hst : (store ((⟨b, off, none⟩ : Addr).add i) v).run P w = .ok () (w.setCell ⟨b, off + i, none⟩ v) := by
      rw [hadd, run_store P w _ v _ (h1 v (by simp)), hcell]
      simp [hfz]
    have eB : blk (w.setCell ⟨b, off + i, none⟩ v) b = (blk w b).setIfInBounds (off + i) v := by rw [blk_setCell, if_pos rfl]
    have ih := run_storeCells_blk b off rest (i + 1) (w.setCell ⟨b, off + i, none⟩ v) (fun x hx => h1 x (by simp [hx])) (by rw [eB, Array.size_setIfInBounds]; omega) (fun k => by rw [World.frozen?_setCell]; exact hfz k)
    simp only [storeCells, Sem.run_bind, hst, Result.andThen_ok, ih]
    congr 1
    obtain ⟨t, fr, e⟩ := blk_some (w := w) (b := b) (by omega)
    rw [setCell_eq_setRow w b (off + i) (blk w b) t fr v e, setRow_setRow]
    congr 1
    have eB2 : blk (w.setRow b ((blk w b).setIfInBounds (off + i) v)) b = (blk w b).setIfInBounds (off + i) v := by rw [blk_setRow, if_pos rfl, if_neg (by omega)]
    rw [eB2, Array.size_setIfInBounds]
    refine rowOf_congr fun k hk => ?_
    by_cases h2 : k = off + i
    · subst h2
      rw [if_neg (by omega), if_pos (by simp only [List.length_cons]; omega)]
      simp [hk]
    · by_cases h3 : off + (i + 1) ≤ k ∧ k < off + (i + 1) + rest.length
      · rw [if_pos h3, if_pos (by simp only [List.length_cons]; omega), show k - (off + i) = (k - (off + (i + 1))) + 1 by omega]
        rfl
      · rw [if_neg h3, if_neg (by simp only [List.length_cons]; omega)]
        simp only [Array.getD_eq_getD_getElem?]
        rw [Array.getElem?_setIfInBounds, if_neg (fun e => h2 e.symm)]
theorem run_storeVar_blk (w : World) (ty : TypeId) (b off n : Nat) (c : Array Value) (hn : (Go.sizeOf ty).run P w = .ok n w) (hc : c.size = n) (h1 : c.all (·.oneCell') = true) (h : off + n ≤ (blk w b).size) (hf : ∀ k, w.frozen? ⟨b, k, none⟩ = false) :
    (storeVar ty ⟨b, off, none⟩ (.agg c)).run P w = .ok () (w.setRow b (putAt (blk w b) off c)) := by
  have hs := run_storeCells_blk (P := P) b off c.toList 0 w (fun v hv => (Array.all_eq_true_iff_forall_mem.1 h1) v (by simpa using hv)) (by simp; omega) hf
  have e : (rowOf (blk w b).size fun k => if off + 0 ≤ k ∧ k < off + 0 + c.toList.length then c.toList.getD (k - (off + 0)) undef else (blk w b).getD k undef) = putAt (blk w b) off c := by
    unfold putAt
    refine rowOf_congr fun k _ => ?_
    simp only [Nat.add_zero, Array.length_toList]
    split
    · simp [List.getD, Array.getD_eq_getD_getElem?]
    · rfl
  rw [e] at hs
  simp only [storeVar, Sem.run_bind, hn, Result.andThen, Value.cells, hc, ne_eq, not_true, if_false, hs]
end
namespace St
theorem cell_one (x : St) (k : Nat) (h : k < 589) : (x.cell k).oneCell' = true := by
  unfold cell
  split
  · have : k % 7 < 7 := Nat.mod_lt _ (by decide)
    generalize k % 7 = j at this
    match j, this with
    | 0, _ | 1, _ | 2, _ | 3, _ | 4, _ | 5, _ | 6, _ => rfl
  · have : (k - 77) % 8 < 8 := Nat.mod_lt _ (by decide)
    generalize (k - 77) % 8 = j at this
    match j, this with
    | 0, _ | 1, _ | 2, _ | 3, _ | 4, _ | 5, _ | 6, _ | 7, _ => rfl
theorem cells_one (x : St) : x.cells.all (·.oneCell') = true := by
  rw [Array.all_eq_true_iff_forall_mem]
  intro v hv
  obtain ⟨k, hk, rfl⟩ := Array.getElem_of_mem hv
  have h2 := cells_size x
  have h3 : x.cells[k]? = some (x.cell k) := by unfold cells; rw [rowOf_get, if_pos (by omega)]
  rw [Array.getElem?_eq_getElem hk] at h3
  rw [Option.some.inj h3]
  exact cell_one x k (by omega)
end St
end Hk
