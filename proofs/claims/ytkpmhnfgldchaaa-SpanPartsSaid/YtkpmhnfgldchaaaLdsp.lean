/- Loads of Spans and of words in a region that draws its order: their value is the cells'. No condition but those in each statement. -/
import Derived.Test.YtkpmhnfgldchaaaProg
import Derived.Test.YtkpmhnfgldchaaaWd
import Derived.Test.YtkpmhnfgldchaaaKp
namespace Hk
open Go Go.RowKit Go.Proofs
set_option linter.unusedSimpArgs false
set_option linter.unusedVariables false
set_option maxRecDepth 100000
theorem run_load_Sp (ρ : Operand → Value) (op : Oper) (x : Operand) (b o : Nat) (c0 c1 : Value) (ho : op.op = .load 25 x) (hx : ρ x = .pointer (some ⟨b, o, none⟩)) (w : World) (h0 : w.cell? ⟨b, o, none⟩ = some c0) (h1 : w.cell? ⟨b, o + 1, none⟩ = some c1) :
    (execOp ρ op).run Try.prog w = .ok (.value (.agg #[c0, c1])) w := by
  obtain ⟨dst, op, type, pos, after, guard⟩ := op
  simp only at ho
  subst ho
  go_simp
theorem quiet_load_Sp {op : Oper} {a : Act} {C : World → Prop} {K : Act → Prop} {x : Operand} {b o : Nat} {c0 c1 : Value} (ho : op.op = .load 25 x) (hx : a.eval x = .pointer (some ⟨b, o, none⟩))
    (h : ∀ w, C w → w.cell? ⟨b, o, none⟩ = some c0 ∧ w.cell? ⟨b, o + 1, none⟩ = some c1) (hk : K (a.put op.dst (.agg #[c0, c1]))) : op.quiet Try.prog a C K :=
  quiet_mk (v := .agg #[c0, c1]) (fun w hC => by unfold Oper.quietAt; obtain ⟨h0, h1⟩ := h w hC; rw [run_load_Sp _ op x b o c0 c1 ho hx w h0 h1]; exact ⟨rfl, rfl⟩) hk

theorem run_load_W (ρ : Operand → Value) (op : Oper) (x : Operand) (b o : Nat) (c0 : Value) (ho : op.op = .load 22 x) (hx : ρ x = .pointer (some ⟨b, o, none⟩)) (w : World) (h0 : w.cell? ⟨b, o, none⟩ = some c0) :
    (execOp ρ op).run Try.prog w = .ok (.value c0) w := by
  obtain ⟨dst, op, type, pos, after, guard⟩ := op
  simp only at ho
  subst ho
  go_simp
theorem quiet_load_W {op : Oper} {a : Act} {C : World → Prop} {K : Act → Prop} {x : Operand} {b o : Nat} {c0 : Value} (ho : op.op = .load 22 x) (hx : a.eval x = .pointer (some ⟨b, o, none⟩))
    (h : ∀ w, C w → w.cell? ⟨b, o, none⟩ = some c0) (hk : K (a.put op.dst c0)) : op.quiet Try.prog a C K :=
  quiet_mk (v := c0) (fun w hC => by unfold Oper.quietAt; rw [run_load_W _ op x b o c0 ho hx w (h w hC)]; exact ⟨rfl, rfl⟩) hk

end Hk
