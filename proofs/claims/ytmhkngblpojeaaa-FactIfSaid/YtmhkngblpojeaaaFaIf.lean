/- What is known of two facts if a condition holds, by cases: plain laws, no program in sight. No condition but those in each statement. -/
import Derived.Test.YtmhkngblpojeaaaGf
namespace Hk
set_option linter.unusedVariables false
namespace Fa
theorem if_n1 {op : Int} {wd : Bool} {a b : Fa} (h : ok a = false) : if_ op wd a b = none := by unfold if_; rw [h]; rfl
theorem if_n2 {op : Int} {wd : Bool} {a b : Fa} (h1 : ok a = true) (h : ok b = false) : if_ op wd a b = none := by unfold if_; rw [h1, h]; rfl
theorem if_kk {op : Int} {wd : Bool} {a b : Fa} {p q : BitVec 64} (h1 : ok a = true) (h2 : ok b = true) (h3 : known a = some p) (h4 : known b = some q) :
    if_ op wd a b = if Cond.is op wd p q = some true then some (a, b) else none := by
  unfold if_; rw [h1, h2, h3, h4]; rfl
theorem if_k {op : Int} {wd : Bool} {a b : Fa} (h1 : ok a = true) (h2 : ok b = true) (h : known a = none ∨ known b = none) : if_ op wd a b = if' op wd a b := by
  unfold if_; rw [h1, h2]
  rcases h with h | h
  · rw [h]; rfl
  · rw [h]; cases known a <;> rfl
theorem if_hi {op : Int} {a b : Fa} (h : decide (4294967296#64 ≤ Sp.mx a.s.hi b.s.hi) = true) : if' op false a b = some (a, b) := by
  have h := of_decide_eq_true h
  rw [BitVec.le_def, Sp.mx_nat] at h
  have hc : 4294967296#64 ≤ a.s.hi ∨ 4294967296#64 ≤ b.s.hi := by
    rw [BitVec.le_def, BitVec.le_def]; omega
  unfold if'
  exact if_pos ⟨rfl, hc⟩
theorem if_lo {op : Int} {wd : Bool} {a b : Fa} (h : wd = true ∨ decide (4294967296#64 ≤ Sp.mx a.s.hi b.s.hi) = false) :
    if' op wd a b = if op = 16 then (if Tn.meetOk a.t b.t then ranges op ⟨Tn.meet a.t b.t, a.s⟩ ⟨Tn.meet a.t b.t, b.s⟩ else none) else ranges op a b := by
  unfold if'
  rw [if_neg]
  rintro ⟨h1, h2⟩
  rcases h with h | h
  · rw [h] at h1; cases h1
  · have h := of_decide_eq_false h
    rw [BitVec.le_def, Sp.mx_nat] at h
    rw [BitVec.le_def, BitVec.le_def] at h2
    omega
/-- the reference's test of the same -/
theorem hi_ref {x y : BitVec 64} : decide (4294967296#64 ≤ Sp.mx x y) = (decide (4294967296#64 ≤ x) || decide (4294967296#64 ≤ y)) := by
  rw [← Bool.decide_or]
  apply decide_eq_decide.2
  rw [BitVec.le_def, BitVec.le_def, BitVec.le_def, Sp.mx_nat]
  omega
/-- what is left of the second one's span -/
def back (op : Int) (a b : Fa) : Option Sp := match Cond.turned op with | none => some b.s | some k => Sp.if_ k b.s a.s
theorem ranges_is {op : Int} {a b : Fa} : ranges op a b = match (Sp.if_ op a.s b.s).bind fun r => settle ⟨a.t, r⟩ with
    | none => none
    | some x => match (back op a b).bind fun s => settle ⟨b.t, s⟩ with
      | none => none
      | some y => some (x, y) := by
  unfold ranges back
  rcases Sp.if_ op a.s b.s with _ | r
  · rfl
  · rcases Cond.turned op with _ | k
    · cases settle ⟨a.t, r⟩ <;> first | rfl | (cases settle ⟨b.t, b.s⟩ <;> rfl)
    · simp only [Option.bind_some]
      rcases Sp.if_ k b.s a.s with _ | s
      · cases settle ⟨a.t, r⟩ <;> rfl
      · cases settle ⟨a.t, r⟩ <;> first | rfl | (cases settle ⟨b.t, s⟩ <;> rfl)
end Fa
end Hk
