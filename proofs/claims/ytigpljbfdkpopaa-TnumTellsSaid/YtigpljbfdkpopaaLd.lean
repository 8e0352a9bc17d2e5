/- Loads of Tnums and of words in a region that draws its order: their value is the cells'. No condition but those in each statement. -/
import Derived.Test.YtigpljbfdkpopaaProg
import Derived.Test.YtigpljbfdkpopaaWd
import Derived.Test.YtigpljbfdkpopaaKp
namespace Hk
open Go Go.RowKit Go.Proofs
set_option linter.unusedSimpArgs false
set_option linter.unusedVariables false
set_option maxRecDepth 100000
theorem run_loadT (ρ : Operand → Value) (o : Oper) (x : Operand) (b : Nat) (c0 c1 : Value) (ho : o.op = .load 24 x) (hx : ρ x = .pointer (some ⟨b, 0, none⟩)) (w : World)
    (h0 : w.cell? ⟨b, 0, none⟩ = some c0) (h1 : w.cell? ⟨b, 1, none⟩ = some c1) : (execOp ρ o).run Try.prog w = .ok (.value (.agg #[c0, c1])) w := by
  obtain ⟨dst, op, type, pos, after, guard⟩ := o
  simp only at ho
  subst ho
  go_simp
theorem quiet_loadT {o : Oper} {a : Act} {C : World → Prop} {K : Act → Prop} {x : Operand} {b : Nat} {c0 c1 : Value} (ho : o.op = .load 24 x) (hx : a.eval x = .pointer (some ⟨b, 0, none⟩))
    (h : ∀ w, C w → w.cell? ⟨b, 0, none⟩ = some c0 ∧ w.cell? ⟨b, 1, none⟩ = some c1) (hk : K (a.put o.dst (.agg #[c0, c1]))) : o.quiet Try.prog a C K :=
  quiet_mk (v := .agg #[c0, c1]) (fun w hC => by unfold Oper.quietAt; rw [run_loadT _ o x b c0 c1 ho hx w (h w hC).1 (h w hC).2]; exact ⟨rfl, rfl⟩) hk
theorem run_loadW (ρ : Operand → Value) (o : Oper) (x : Operand) (b i : Nat) (c0 : Value) (ho : o.op = .load 22 x) (hx : ρ x = .pointer (some ⟨b, i, none⟩)) (w : World)
    (h0 : w.cell? ⟨b, i, none⟩ = some c0) : (execOp ρ o).run Try.prog w = .ok (.value c0) w := by
  obtain ⟨dst, op, type, pos, after, guard⟩ := o
  simp only at ho
  subst ho
  go_simp
theorem quiet_loadW {o : Oper} {a : Act} {C : World → Prop} {K : Act → Prop} {x : Operand} {b i : Nat} {c0 : Value} (ho : o.op = .load 22 x) (hx : a.eval x = .pointer (some ⟨b, i, none⟩))
    (h : ∀ w, C w → w.cell? ⟨b, i, none⟩ = some c0) (hk : K (a.put o.dst c0)) : o.quiet Try.prog a C K :=
  quiet_mk (v := c0) (fun w hC => by unfold Oper.quietAt; rw [run_loadW _ o x b i c0 ho hx w (h w hC)]; exact ⟨rfl, rfl⟩) hk

end Hk
