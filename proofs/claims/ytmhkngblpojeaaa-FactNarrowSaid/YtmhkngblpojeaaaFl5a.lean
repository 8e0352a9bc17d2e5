/- Classes of worlds for the statement FactNarrow of the Go text, and what narrow arithmetic leaves. No condition. -/
import Derived.Test.YtmhkngblpojeaaaProg
import Derived.Test.YtmhkngblpojeaaaGp
import Derived.Test.YtmhkngblpojeaaaGf
import Derived.Test.YtmhkngblpojeaaaFl1
import Derived.Test.YtmhkngblpojeaaaRc5
import Derived.Test.YtmhkngblpojeaaaGl
import Derived.Deep.RegionHeld3
import Derived.Deep.DeepCutAuto
namespace Hk
open Go Go.RowKit Go.Proofs
set_option linter.unusedSimpArgs false
set_option linter.unusedVariables false
set_option maxRecDepth 100000
attribute [go_sem] Tn.eta Alu.val_some Alu.err_some Alu.val_none Alu.err_none
theorem Fa.do_low {op off : Int} {a b f : Fa} (h : Fa.do_ op false off a b = some f) : f.s.hi < 4294967296#64 ∧ (f.t.v ||| f.t.m) < 4294967296#64 := by
  unfold Fa.do_ at h
  split at h
  · injection h with h
    subst h
    exact Fa.cut_low _
  · cases h

def FEightC (n0 n1 n2 n3 n4 n5 n6 n7 : BitVec 64) (w : World) (w' : World) : Prop := w'.cell? ⟨w.heap.size, 0, none⟩ = some (.int .u64 (N n0)) ∧ w'.cell? ⟨w.heap.size, 1, none⟩ = some (.int .u64 (N n1)) ∧ w'.cell? ⟨w.heap.size, 2, none⟩ = some (.int .u64 (N n2)) ∧ w'.cell? ⟨w.heap.size, 3, none⟩ = some (.int .u64 (N n3)) ∧ w'.cell? ⟨w.heap.size, 4, none⟩ = some (.int .u64 (N n4)) ∧ w'.cell? ⟨w.heap.size, 5, none⟩ = some (.int .u64 (N n5)) ∧ w'.cell? ⟨w.heap.size, 6, none⟩ = some (.int .u64 (N n6)) ∧ w'.cell? ⟨w.heap.size, 7, none⟩ = some (.int .u64 (N n7)) ∧ Below w.heap.size w w'
theorem FEightC_keep {n0 n1 n2 n3 n4 n5 n6 n7 : BitVec 64} {w : World} (w' w1 : World) (h : FEightC n0 n1 n2 n3 n4 n5 n6 n7 w w') (hb : Below w'.heap.size w' w1) : FEightC n0 n1 n2 n3 n4 n5 n6 n7 w w1 := by
  obtain ⟨k0, k1, k2, k3, k4, k5, k6, k7, k8⟩ := h
  exact ⟨cell_keep hb k0, cell_keep hb k1, cell_keep hb k2, cell_keep hb k3, cell_keep hb k4, cell_keep hb k5, cell_keep hb k6, cell_keep hb k7, below_next k8 hb⟩

def FNarrowC (n0 n1 n2 n3 n4 n5 n6 n7 : BitVec 64) (a b f : Fa) (p q : Nat) (w wF : World) (w' : World) : Prop := w'.cell? ⟨w.heap.size, 0, none⟩ = some (.int .u64 (N n0)) ∧ w'.cell? ⟨w.heap.size, 1, none⟩ = some (.int .u64 (N n1)) ∧ w'.cell? ⟨w.heap.size, 2, none⟩ = some (.int .u64 (N n2)) ∧ w'.cell? ⟨w.heap.size, 3, none⟩ = some (.int .u64 (N n3)) ∧ w'.cell? ⟨w.heap.size, 4, none⟩ = some (.int .u64 (N n4)) ∧ w'.cell? ⟨w.heap.size, 5, none⟩ = some (.int .u64 (N n5)) ∧ w'.cell? ⟨w.heap.size, 6, none⟩ = some (.int .u64 (N n6)) ∧ w'.cell? ⟨w.heap.size, 7, none⟩ = some (.int .u64 (N n7)) ∧ w'.cell? ⟨p, 0, none⟩ = some (.int .u64 (N a.t.v)) ∧ w'.cell? ⟨p, 1, none⟩ = some (.int .u64 (N a.t.m)) ∧ w'.cell? ⟨p, 2, none⟩ = some (.int .u64 (N a.s.lo)) ∧ w'.cell? ⟨p, 3, none⟩ = some (.int .u64 (N a.s.hi)) ∧ w'.cell? ⟨q, 0, none⟩ = some (.int .u64 (N b.t.v)) ∧ w'.cell? ⟨q, 1, none⟩ = some (.int .u64 (N b.t.m)) ∧ w'.cell? ⟨q, 2, none⟩ = some (.int .u64 (N b.s.lo)) ∧ w'.cell? ⟨q, 3, none⟩ = some (.int .u64 (N b.s.hi)) ∧ w'.cell? ⟨wF.heap.size, 0, none⟩ = some (.int .u64 (N f.t.v)) ∧ w'.cell? ⟨wF.heap.size, 1, none⟩ = some (.int .u64 (N f.t.m)) ∧ w'.cell? ⟨wF.heap.size, 2, none⟩ = some (.int .u64 (N f.s.lo)) ∧ w'.cell? ⟨wF.heap.size, 3, none⟩ = some (.int .u64 (N f.s.hi)) ∧ Below w.heap.size w w'
theorem FNarrowC_keep {n0 n1 n2 n3 n4 n5 n6 n7 : BitVec 64} {a b f : Fa} {p q : Nat} {w wF : World} (w' w1 : World) (h : FNarrowC n0 n1 n2 n3 n4 n5 n6 n7 a b f p q w wF w') (hb : Below w'.heap.size w' w1) : FNarrowC n0 n1 n2 n3 n4 n5 n6 n7 a b f p q w wF w1 := by
  obtain ⟨k0, k1, k2, k3, k4, k5, k6, k7, k8, k9, k10, k11, k12, k13, k14, k15, k16, k17, k18, k19, k20⟩ := h
  exact ⟨cell_keep hb k0, cell_keep hb k1, cell_keep hb k2, cell_keep hb k3, cell_keep hb k4, cell_keep hb k5, cell_keep hb k6, cell_keep hb k7, cell_keep hb k8, cell_keep hb k9, cell_keep hb k10, cell_keep hb k11, cell_keep hb k12, cell_keep hb k13, cell_keep hb k14, cell_keep hb k15, cell_keep hb k16, cell_keep hb k17, cell_keep hb k18, cell_keep hb k19, below_next k20 hb⟩

def FNarrowD (f g : Fa) (p q : Nat) (w : World) (w' : World) : Prop := w'.cell? ⟨p, 0, none⟩ = some (.int .u64 (N f.t.v)) ∧ w'.cell? ⟨p, 1, none⟩ = some (.int .u64 (N f.t.m)) ∧ w'.cell? ⟨p, 2, none⟩ = some (.int .u64 (N f.s.lo)) ∧ w'.cell? ⟨p, 3, none⟩ = some (.int .u64 (N f.s.hi)) ∧ w'.cell? ⟨q, 0, none⟩ = some (.int .u64 (N g.t.v)) ∧ w'.cell? ⟨q, 1, none⟩ = some (.int .u64 (N g.t.m)) ∧ w'.cell? ⟨q, 2, none⟩ = some (.int .u64 (N g.s.lo)) ∧ w'.cell? ⟨q, 3, none⟩ = some (.int .u64 (N g.s.hi)) ∧ Below w.heap.size w w'
theorem FNarrowD_keep {f g : Fa} {p q : Nat} {w : World} (w' w1 : World) (h : FNarrowD f g p q w w') (hb : Below w'.heap.size w' w1) : FNarrowD f g p q w w1 := by
  obtain ⟨k0, k1, k2, k3, k4, k5, k6, k7, k8⟩ := h
  exact ⟨cell_keep hb k0, cell_keep hb k1, cell_keep hb k2, cell_keep hb k3, cell_keep hb k4, cell_keep hb k5, cell_keep hb k6, cell_keep hb k7, below_next k8 hb⟩

end Hk
