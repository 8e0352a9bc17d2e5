/- A cell that is there stays as it is behind a call. No condition but those in each statement. -/
import Derived.Test.YtkpmhnfgldchaaaWd
import Derived.BigQuiet
namespace Hk
open Go Go.RowKit
/-- a cell that is there stays as it is behind a call -/
theorem cell_keep {w w1 : World} {b o : Nat} {v : Value} (hb : Below w.heap.size w w1) (h : w.cell? ⟨b, o, none⟩ = some v) : w1.cell? ⟨b, o, none⟩ = some v := by
  have hlt : b < w.heap.size := by
    apply Classical.byContradiction
    intro hn
    have e : w.heap[b]? = none := by simp; omega
    simp [World.cell?, e] at h
  rw [hb.cell (p := ⟨b, o, none⟩) hlt]; exact h
theorem cell_lt {w : World} {b o : Nat} {v : Value} (h : w.cell? ⟨b, o, none⟩ = some v) : b < w.heap.size := by
  apply Classical.byContradiction
  intro hn
  have e : w.heap[b]? = none := by simp; omega
  simp [World.cell?, e] at h
theorem below_next {W w w1 : World} (h : Below W.heap.size W w) (hb : Below w.heap.size w w1) : Below W.heap.size W w1 := h.trans (hb.mono h.size)
theorem frozen_keep {w w1 : World} {b o : Nat} {v : Value} (hb : Below w.heap.size w w1) (h : w.cell? ⟨b, o, none⟩ = some v) (hf : ∀ i, w.frozen? ⟨b, i, none⟩ = false) : ∀ i, w1.frozen? ⟨b, i, none⟩ = false := by
  have hlt : b < w.heap.size := by
    apply Classical.byContradiction
    intro hn
    have e : w.heap[b]? = none := by simp; omega
    simp [World.cell?, e] at h
  intro i
  rw [hb.frozen (p := ⟨b, i, none⟩) hlt]; exact hf i
section
variable {P : Program}
/-- A region that draws its order, whose operations and callees keep a class of worlds: one walk of the text's order serves every order. -/
theorem wp_region_class {id : Nat} {Q : Exit → Act → World → Prop} {a : Act} {w : World} {l : List Oper} (C : World → Prop) (hm : P.follows .mixedOrders = true) (hB : Region.lexB .any l.toArray = true)
    (hC : C w.drew) (h : (∀ p : Prop, (∀ w', C w' → p) = p) → wpQuiet P l.toArray C (fun a' => ∀ w', C w' → Q .normal a' w') l a) : (Code.region id l.toArray true).wp P Q a w :=
  wp_region_quiet (C := C) hm hB hC (by simpa using h fun p => propext ⟨fun k => k _ hC, fun k _ _ => k⟩)
theorem quiet_mk {o : Oper} {a : Act} {C : World → Prop} {K : Act → Prop} {v : Value} (h : ∀ w, C w → o.quietAt P a C w v) (hk : K (a.put o.dst v)) : o.quiet P a C K := ⟨v, h, hk⟩
end
end Hk
