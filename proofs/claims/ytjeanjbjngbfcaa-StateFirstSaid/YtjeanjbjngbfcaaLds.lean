/- Loads of a slot of the stack, in a region that draws its order. No condition but those in each statement. -/
import Derived.Test.YtjeanjbjngbfcaaProg
import Derived.Test.YtjeanjbjngbfcaaGp
import Derived.Test.YtjeanjbjngbfcaaGv
import Derived.Test.YtjeanjbjngbfcaaGl
namespace Hk
open Go Go.RowKit Go.Proofs
set_option linter.unusedSimpArgs false
set_option linter.unusedVariables false
set_option maxRecDepth 100000
attribute [go_sem] Tn.eta Sp.eta Fa.eta Vl.eta
theorem run_load_Slot (ρ : Operand → Value) (op : Oper) (x : Operand) (b o : Nat) (c0 c1 c2 c3 c4 c5 c6 c7 : Value) (ho : op.op = .load 35 x) (hx : ρ x = .pointer (some ⟨b, o, none⟩)) (w : World) (h0 : w.cell? ⟨b, o, none⟩ = some c0) (h1 : w.cell? ⟨b, o + 1, none⟩ = some c1) (h2 : w.cell? ⟨b, o + 2, none⟩ = some c2) (h3 : w.cell? ⟨b, o + 3, none⟩ = some c3) (h4 : w.cell? ⟨b, o + 4, none⟩ = some c4) (h5 : w.cell? ⟨b, o + 5, none⟩ = some c5) (h6 : w.cell? ⟨b, o + 6, none⟩ = some c6) (h7 : w.cell? ⟨b, o + 7, none⟩ = some c7) :
    (execOp ρ op).run Try.prog w = .ok (.value (.agg #[c0, c1, c2, c3, c4, c5, c6, c7])) w := by
  obtain ⟨dst, op, type, pos, after, guard⟩ := op
  simp only at ho
  subst ho
  go_simp
theorem quiet_load_Slot {op : Oper} {a : Act} {C : World → Prop} {K : Act → Prop} {x : Operand} {b o : Nat} {c0 c1 c2 c3 c4 c5 c6 c7 : Value} (ho : op.op = .load 35 x) (hx : a.eval x = .pointer (some ⟨b, o, none⟩))
    (h : ∀ w, C w → w.cell? ⟨b, o, none⟩ = some c0 ∧ w.cell? ⟨b, o + 1, none⟩ = some c1 ∧ w.cell? ⟨b, o + 2, none⟩ = some c2 ∧ w.cell? ⟨b, o + 3, none⟩ = some c3 ∧ w.cell? ⟨b, o + 4, none⟩ = some c4 ∧ w.cell? ⟨b, o + 5, none⟩ = some c5 ∧ w.cell? ⟨b, o + 6, none⟩ = some c6 ∧ w.cell? ⟨b, o + 7, none⟩ = some c7) (hk : K (a.put op.dst (.agg #[c0, c1, c2, c3, c4, c5, c6, c7]))) : op.quiet Try.prog a C K :=
  quiet_mk (v := .agg #[c0, c1, c2, c3, c4, c5, c6, c7]) (fun w hC => by unfold Oper.quietAt; obtain ⟨h0, h1, h2, h3, h4, h5, h6, h7⟩ := h w hC; rw [run_load_Slot _ op x b o c0 c1 c2 c3 c4 c5 c6 c7 ho hx w h0 h1 h2 h3 h4 h5 h6 h7]; exact ⟨rfl, rfl⟩) hk

end Hk
