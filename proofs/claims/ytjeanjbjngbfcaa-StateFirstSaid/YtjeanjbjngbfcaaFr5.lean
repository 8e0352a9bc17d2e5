/- The reference of facts: Join, Cut; old memory is as it was. No condition but those in each statement. -/
import Derived.Test.YtjeanjbjngbfcaaProg
import Derived.Test.YtjeanjbjngbfcaaGp
import Derived.Test.YtjeanjbjngbfcaaGf
import Derived.Test.YtjeanjbjngbfcaaGx
import Derived.Test.YtjeanjbjngbfcaaGl
namespace Hk
open Go Go.RowKit Go.Proofs
set_option linter.unusedSimpArgs false
set_option linter.unusedVariables false
set_option maxRecDepth 100000
attribute [go_sem] Tn.eta
def RFJoinC (a b z : Fa) (w : World) (w' : World) : Prop := w'.cell? ⟨w.heap.size, 0, none⟩ = some (.int .u64 (N a.t.v)) ∧ w'.cell? ⟨w.heap.size, 1, none⟩ = some (.int .u64 (N a.t.m)) ∧ w'.cell? ⟨w.heap.size, 2, none⟩ = some (.int .u64 (N a.s.lo)) ∧ w'.cell? ⟨w.heap.size, 3, none⟩ = some (.int .u64 (N a.s.hi)) ∧ w'.cell? ⟨w.heap.size + 1, 0, none⟩ = some (.int .u64 (N b.t.v)) ∧ w'.cell? ⟨w.heap.size + 1, 1, none⟩ = some (.int .u64 (N b.t.m)) ∧ w'.cell? ⟨w.heap.size + 1, 2, none⟩ = some (.int .u64 (N b.s.lo)) ∧ w'.cell? ⟨w.heap.size + 1, 3, none⟩ = some (.int .u64 (N b.s.hi)) ∧ w'.cell? ⟨w.heap.size + 1 + 1, 0, none⟩ = some (.int .u64 (N z.t.v)) ∧ w'.cell? ⟨w.heap.size + 1 + 1, 1, none⟩ = some (.int .u64 (N z.t.m)) ∧ w'.cell? ⟨w.heap.size + 1 + 1, 2, none⟩ = some (.int .u64 (N z.s.lo)) ∧ w'.cell? ⟨w.heap.size + 1 + 1, 3, none⟩ = some (.int .u64 (N z.s.hi)) ∧ (∀ i, w'.frozen? ⟨w.heap.size + 1 + 1, i, none⟩ = false) ∧ Below w.heap.size w w'
theorem RFJoinC_keep {a b z : Fa} {w : World} (w' w1 : World) (h : RFJoinC a b z w w') (hb : Below w'.heap.size w' w1) : RFJoinC a b z w w1 := by
  obtain ⟨k0, k1, k2, k3, k4, k5, k6, k7, k8, k9, k10, k11, k12, k13⟩ := h
  exact ⟨cell_keep hb k0, cell_keep hb k1, cell_keep hb k2, cell_keep hb k3, cell_keep hb k4, cell_keep hb k5, cell_keep hb k6, cell_keep hb k7, cell_keep hb k8, cell_keep hb k9, cell_keep hb k10, cell_keep hb k11, frozen_keep hb k8 k12, below_next k13 hb⟩

def RFCutC (f z : Fa) (s : Sp) (w wR : World) (w' : World) : Prop := w'.cell? ⟨w.heap.size, 0, none⟩ = some (.int .u64 (N f.t.v)) ∧ w'.cell? ⟨w.heap.size, 1, none⟩ = some (.int .u64 (N f.t.m)) ∧ w'.cell? ⟨w.heap.size, 2, none⟩ = some (.int .u64 (N f.s.lo)) ∧ w'.cell? ⟨w.heap.size, 3, none⟩ = some (.int .u64 (N f.s.hi)) ∧ w'.cell? ⟨w.heap.size + 1, 0, none⟩ = some (.int .u64 (N z.t.v)) ∧ w'.cell? ⟨w.heap.size + 1, 1, none⟩ = some (.int .u64 (N z.t.m)) ∧ w'.cell? ⟨w.heap.size + 1, 2, none⟩ = some (.int .u64 (N z.s.lo)) ∧ w'.cell? ⟨w.heap.size + 1, 3, none⟩ = some (.int .u64 (N z.s.hi)) ∧ w'.cell? ⟨wR.heap.size, 0, none⟩ = some (.int .u64 (N s.lo)) ∧ w'.cell? ⟨wR.heap.size, 1, none⟩ = some (.int .u64 (N s.hi)) ∧ (∀ i, w'.frozen? ⟨w.heap.size + 1, i, none⟩ = false) ∧ Below w.heap.size w w'
theorem RFCutC_keep {f z : Fa} {s : Sp} {w wR : World} (w' w1 : World) (h : RFCutC f z s w wR w') (hb : Below w'.heap.size w' w1) : RFCutC f z s w wR w1 := by
  obtain ⟨k0, k1, k2, k3, k4, k5, k6, k7, k8, k9, k10, k11⟩ := h
  exact ⟨cell_keep hb k0, cell_keep hb k1, cell_keep hb k2, cell_keep hb k3, cell_keep hb k4, cell_keep hb k5, cell_keep hb k6, cell_keep hb k7, cell_keep hb k8, cell_keep hb k9, frozen_keep hb k4 k10, below_next k11 hb⟩

end Hk
