/- The statements' own functions on what is known of a register: the document's examples stand; old memory is as it was. No condition. -/
import Derived.Test.YtjeanjbjngbfcaaProg
import Derived.Test.YtjeanjbjngbfcaaGp
import Derived.Test.YtjeanjbjngbfcaaGv
import Derived.Test.YtjeanjbjngbfcaaVl1
import Derived.Test.YtjeanjbjngbfcaaVl2
import Derived.Test.YtjeanjbjngbfcaaVl3
import Derived.Test.YtjeanjbjngbfcaaVl4
import Derived.Test.YtjeanjbjngbfcaaGl
namespace Hk
open Go Go.RowKit Go.Proofs
set_option linter.unusedSimpArgs false
set_option linter.unusedVariables false
set_option maxRecDepth 100000
attribute [go_sem] Tn.eta Sp.eta Fa.eta Vl.eta
theorem run_load_Val (ρ : Operand → Value) (op : Oper) (x : Operand) (b o : Nat) (c0 c1 c2 c3 c4 c5 c6 : Value) (ho : op.op = .load 31 x) (hx : ρ x = .pointer (some ⟨b, o, none⟩)) (w : World) (h0 : w.cell? ⟨b, o, none⟩ = some c0) (h1 : w.cell? ⟨b, o + 1, none⟩ = some c1) (h2 : w.cell? ⟨b, o + 2, none⟩ = some c2) (h3 : w.cell? ⟨b, o + 3, none⟩ = some c3) (h4 : w.cell? ⟨b, o + 4, none⟩ = some c4) (h5 : w.cell? ⟨b, o + 5, none⟩ = some c5) (h6 : w.cell? ⟨b, o + 6, none⟩ = some c6) :
    (execOp ρ op).run Try.prog w = .ok (.value (.agg #[c0, c1, c2, c3, c4, c5, c6])) w := by
  obtain ⟨dst, op, type, pos, after, guard⟩ := op
  simp only at ho
  subst ho
  go_simp
theorem quiet_load_Val {op : Oper} {a : Act} {C : World → Prop} {K : Act → Prop} {x : Operand} {b o : Nat} {c0 c1 c2 c3 c4 c5 c6 : Value} (ho : op.op = .load 31 x) (hx : a.eval x = .pointer (some ⟨b, o, none⟩))
    (h : ∀ w, C w → w.cell? ⟨b, o, none⟩ = some c0 ∧ w.cell? ⟨b, o + 1, none⟩ = some c1 ∧ w.cell? ⟨b, o + 2, none⟩ = some c2 ∧ w.cell? ⟨b, o + 3, none⟩ = some c3 ∧ w.cell? ⟨b, o + 4, none⟩ = some c4 ∧ w.cell? ⟨b, o + 5, none⟩ = some c5 ∧ w.cell? ⟨b, o + 6, none⟩ = some c6) (hk : K (a.put op.dst (.agg #[c0, c1, c2, c3, c4, c5, c6]))) : op.quiet Try.prog a C K :=
  quiet_mk (v := .agg #[c0, c1, c2, c3, c4, c5, c6]) (fun w hC => by unfold Oper.quietAt; obtain ⟨h0, h1, h2, h3, h4, h5, h6⟩ := h w hC; rw [run_load_Val _ op x b o c0 c1 c2 c3 c4 c5 c6 ho hx w h0 h1 h2 h3 h4 h5 h6]; exact ⟨rfl, rfl⟩) hk

theorem vrof_c (n : BitVec 64) (w : World) : Calls Try.prog 27 #[.int .u64 (N n)] w fun e w' => e = .returned (.agg #[.int .u64 (N (Fa.of n).t.v), .int .u64 (N (Fa.of n).t.m), .int .u64 (N (Fa.of n).s.lo), .int .u64 (N (Fa.of n).s.hi)]) ∧ Below w.heap.size w w' := by
  go_enter Try.func27, Try.ntmps27
  go_wp2
  refine bodyPost_ret ?_ rfl ⟨rfl, (by repeat' (first | (with_reducible exact Below.refl _ _) | (with_reducible assumption) | (with_reducible refine Below.alloc ?_ ?_ _) | (with_reducible refine Below.setCell ?_ ?_ _) | (with_reducible refine Below.drew ?_) | (with_reducible refine below_dn ?_ _) | (with_reducible refine Below.trans ?_ (Below.mono (by assumption) ?_)) | go_size))⟩
  simp only [results, Try.results27]; simp [*, go_sem, ↓IntWalk.iteOmega, Fa.of, Tn.of]; try (first | rfl | exact ⟨rfl, rfl⟩)

theorem mul32 (x : BitVec 64) : x * 4294967296#64 = x <<< 32 := by
  apply BitVec.eq_of_toNat_eq
  rw [BitVec.toNat_mul, BitVec.toNat_shiftLeft, Nat.shiftLeft_eq]
  rfl

def VShC (v j : Vl) (w wM wJ : World) (w' : World) : Prop := w'.cell? ⟨wM.heap.size, 0, none⟩ = some (.int .u8 v.k) ∧ w'.cell? ⟨wM.heap.size, 1, none⟩ = some (.int .u64 (N v.f.t.v)) ∧ w'.cell? ⟨wM.heap.size, 2, none⟩ = some (.int .u64 (N v.f.t.m)) ∧ w'.cell? ⟨wM.heap.size, 3, none⟩ = some (.int .u64 (N v.f.s.lo)) ∧ w'.cell? ⟨wM.heap.size, 4, none⟩ = some (.int .u64 (N v.f.s.hi)) ∧ w'.cell? ⟨wM.heap.size, 5, none⟩ = some (.int .i64 v.i) ∧ w'.cell? ⟨wM.heap.size, 6, none⟩ = some (.int .i64 v.off) ∧ w'.cell? ⟨wJ.heap.size, 0, none⟩ = some (.int .u8 j.k) ∧ w'.cell? ⟨wJ.heap.size, 1, none⟩ = some (.int .u64 (N j.f.t.v)) ∧ w'.cell? ⟨wJ.heap.size, 2, none⟩ = some (.int .u64 (N j.f.t.m)) ∧ w'.cell? ⟨wJ.heap.size, 3, none⟩ = some (.int .u64 (N j.f.s.lo)) ∧ w'.cell? ⟨wJ.heap.size, 4, none⟩ = some (.int .u64 (N j.f.s.hi)) ∧ w'.cell? ⟨wJ.heap.size, 5, none⟩ = some (.int .i64 j.i) ∧ w'.cell? ⟨wJ.heap.size, 6, none⟩ = some (.int .i64 j.off) ∧ Below w.heap.size w w'
theorem VShC_keep {v j : Vl} {w wM wJ : World} (w' w1 : World) (h : VShC v j w wM wJ w') (hb : Below w'.heap.size w' w1) : VShC v j w wM wJ w1 := by
  obtain ⟨k0, k1, k2, k3, k4, k5, k6, k7, k8, k9, k10, k11, k12, k13, k14⟩ := h
  exact ⟨cell_keep hb k0, cell_keep hb k1, cell_keep hb k2, cell_keep hb k3, cell_keep hb k4, cell_keep hb k5, cell_keep hb k6, cell_keep hb k7, cell_keep hb k8, cell_keep hb k9, cell_keep hb k10, cell_keep hb k11, cell_keep hb k12, cell_keep hb k13, below_next k14 hb⟩

end Hk
