/- Cells of a state of registers and the stack, one by one, as rules of the walk. No condition but those in each statement. -/
import Derived.Test.YtjeanjbjngbfcaaProg
import Derived.Test.YtjeanjbjngbfcaaGp
import Derived.Test.YtjeanjbjngbfcaaSt1
namespace Hk
open Go Go.RowKit Go.Proofs
set_option linter.unusedSimpArgs false
set_option linter.unusedVariables false
set_option maxRecDepth 100000
attribute [go_sem] Tn.eta Sp.eta Fa.eta Vl.eta
@[go_sem] theorem cr_0 (x : St) (i : Nat) (hi : i < 11) : x.cells[i * 7]? = some (.int .u8 (x.r i).k) := by
  unfold St.cells
  rw [rowOf_get, if_pos (by omega)]
  have := x.cell_reg hi (j := 0) (by omega)
  (try simp only [Nat.add_zero] at this)
  rw [this]
  rfl

@[go_sem] theorem cr_1 (x : St) (i : Nat) (hi : i < 11) : x.cells[i * 7 + 1]? = some (.int .u64 (N (x.r i).f.t.v)) := by
  unfold St.cells
  rw [rowOf_get, if_pos (by omega)]
  have := x.cell_reg hi (j := 1) (by omega)
  (try simp only [Nat.add_zero] at this)
  rw [this]
  rfl

@[go_sem] theorem cr_2 (x : St) (i : Nat) (hi : i < 11) : x.cells[i * 7 + 2]? = some (.int .u64 (N (x.r i).f.t.m)) := by
  unfold St.cells
  rw [rowOf_get, if_pos (by omega)]
  have := x.cell_reg hi (j := 2) (by omega)
  (try simp only [Nat.add_zero] at this)
  rw [this]
  rfl

@[go_sem] theorem cr_3 (x : St) (i : Nat) (hi : i < 11) : x.cells[i * 7 + 3]? = some (.int .u64 (N (x.r i).f.s.lo)) := by
  unfold St.cells
  rw [rowOf_get, if_pos (by omega)]
  have := x.cell_reg hi (j := 3) (by omega)
  (try simp only [Nat.add_zero] at this)
  rw [this]
  rfl

@[go_sem] theorem cr_4 (x : St) (i : Nat) (hi : i < 11) : x.cells[i * 7 + 4]? = some (.int .u64 (N (x.r i).f.s.hi)) := by
  unfold St.cells
  rw [rowOf_get, if_pos (by omega)]
  have := x.cell_reg hi (j := 4) (by omega)
  (try simp only [Nat.add_zero] at this)
  rw [this]
  rfl

@[go_sem] theorem cr_5 (x : St) (i : Nat) (hi : i < 11) : x.cells[i * 7 + 5]? = some (.int .i64 (x.r i).i) := by
  unfold St.cells
  rw [rowOf_get, if_pos (by omega)]
  have := x.cell_reg hi (j := 5) (by omega)
  (try simp only [Nat.add_zero] at this)
  rw [this]
  rfl

@[go_sem] theorem cr_6 (x : St) (i : Nat) (hi : i < 11) : x.cells[i * 7 + 6]? = some (.int .i64 (x.r i).off) := by
  unfold St.cells
  rw [rowOf_get, if_pos (by omega)]
  have := x.cell_reg hi (j := 6) (by omega)
  (try simp only [Nat.add_zero] at this)
  rw [this]
  rfl

@[go_sem] theorem cs_1 (x : St) (i : Nat) (hi : i < 64) : x.cells[77 + i * 8 + 1]? = some (.int .u64 (N (x.s i).v.f.t.v)) := by
  unfold St.cells
  rw [rowOf_get, if_pos (by omega), Nat.add_assoc, x.cell_slot (j := 1) (by omega)]
  rfl

@[go_sem] theorem cs_2 (x : St) (i : Nat) (hi : i < 64) : x.cells[77 + i * 8 + 2]? = some (.int .u64 (N (x.s i).v.f.t.m)) := by
  unfold St.cells
  rw [rowOf_get, if_pos (by omega), Nat.add_assoc, x.cell_slot (j := 2) (by omega)]
  rfl

@[go_sem] theorem cs_3 (x : St) (i : Nat) (hi : i < 64) : x.cells[77 + i * 8 + 3]? = some (.int .u64 (N (x.s i).v.f.s.lo)) := by
  unfold St.cells
  rw [rowOf_get, if_pos (by omega), Nat.add_assoc, x.cell_slot (j := 3) (by omega)]
  rfl

@[go_sem] theorem cs_4 (x : St) (i : Nat) (hi : i < 64) : x.cells[77 + i * 8 + 4]? = some (.int .u64 (N (x.s i).v.f.s.hi)) := by
  unfold St.cells
  rw [rowOf_get, if_pos (by omega), Nat.add_assoc, x.cell_slot (j := 4) (by omega)]
  rfl

@[go_sem] theorem cs_5 (x : St) (i : Nat) (hi : i < 64) : x.cells[77 + i * 8 + 5]? = some (.int .i64 (x.s i).v.i) := by
  unfold St.cells
  rw [rowOf_get, if_pos (by omega), Nat.add_assoc, x.cell_slot (j := 5) (by omega)]
  rfl

@[go_sem] theorem cs_6 (x : St) (i : Nat) (hi : i < 64) : x.cells[77 + i * 8 + 6]? = some (.int .i64 (x.s i).v.off) := by
  unfold St.cells
  rw [rowOf_get, if_pos (by omega), Nat.add_assoc, x.cell_slot (j := 6) (by omega)]
  rfl

end Hk
