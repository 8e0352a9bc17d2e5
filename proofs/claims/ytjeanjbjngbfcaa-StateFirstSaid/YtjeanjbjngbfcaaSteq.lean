/- States of registers and the stack, compared: what is alike is alike. No condition but those in each statement. -/
import Derived.Test.YtjeanjbjngbfcaaProg
import Derived.Test.YtjeanjbjngbfcaaGp
import Derived.Test.YtjeanjbjngbfcaaSt1
import Derived.Test.YtjeanjbjngbfcaaStk
import Derived.ChangeKeysEq
namespace Hk
open Go Go.RowKit Go.Proofs
set_option linter.unusedSimpArgs false
set_option linter.unusedVariables false
set_option maxRecDepth 100000
attribute [go_sem] Tn.eta Sp.eta Fa.eta Vl.eta
theorem eqItems_refl {P : Program} (w : World) (d : Nat) (e : TypeId) (c : Nat) (xs : Array Value) : ∀ is : List Nat, (∀ i ∈ is, ∃ v, (part e xs (i * c)).run P w = .ok v w ∧ (Op.equalIn d e v v).run P w = .ok true w) → (Op.eqItems d e c xs xs is).run P w = .ok true w
  | [], _ => by simp [Op.eqItems]
  | i :: is, h => by
    obtain ⟨v, h1, h2⟩ := h i (by simp)
    have ih := eqItems_refl w d e c xs is fun j hj => h j (by simp [hj])
    simp only [Op.eqItems, Sem.run_bind, h1, h2, Result.andThen_ok, Bool.not_true, Bool.false_eq_true, if_false, ih]
theorem eq_val (d : Nat) (v : Vl) (w : World) : (Op.equalIn (d + 5) 31 (.agg #[.int .u8 v.k, .int .u64 (N v.f.t.v), .int .u64 (N v.f.t.m), .int .u64 (N v.f.s.lo), .int .u64 (N v.f.s.hi), .int .i64 v.i, .int .i64 v.off]) (.agg #[.int .u8 v.k, .int .u64 (N v.f.t.v), .int .u64 (N v.f.t.m), .int .u64 (N v.f.s.lo), .int .u64 (N v.f.s.hi), .int .i64 v.i, .int .i64 v.off])).run Try.prog w = .ok true w := by
  simp [go_sem]
theorem eq_slot (d : Nat) (x : Sl) (w : World) : (Op.equalIn (d + 6) 35 (.agg #[.int .u8 x.v.k, .int .u64 (N x.v.f.t.v), .int .u64 (N x.v.f.t.m), .int .u64 (N x.v.f.s.lo), .int .u64 (N x.v.f.s.hi), .int .i64 x.v.i, .int .i64 x.v.off, .int .u8 (N8 x.p)]) (.agg #[.int .u8 x.v.k, .int .u64 (N x.v.f.t.v), .int .u64 (N x.v.f.t.m), .int .u64 (N x.v.f.s.lo), .int .u64 (N x.v.f.s.hi), .int .i64 x.v.i, .int .i64 x.v.off, .int .u8 (N8 x.p)])).run Try.prog w = .ok true w := by
  simp [go_sem]
theorem part_reg (x : St) (i : Nat) (hi : i < 11) (w : World) : (part 31 x.regs (i * 7)).run Try.prog w = .ok (.agg #[.int .u8 (x.r i).k, .int .u64 (N (x.r i).f.t.v), .int .u64 (N (x.r i).f.t.m), .int .u64 (N (x.r i).f.s.lo), .int .u64 (N (x.r i).f.s.hi), .int .i64 (x.r i).i, .int .i64 (x.r i).off]) w := by
  simp only [part, Sem.run_bind, Try.isAgg31 w, Try.sizeOf31 w, Result.andThen_ok, if_true, Sem.run_pure, x.regs_val hi]
  rfl
theorem part_slot (x : St) (i : Nat) (hi : i < 64) (w : World) : (part 35 x.slots (i * 8)).run Try.prog w = .ok (.agg #[.int .u8 (x.s i).v.k, .int .u64 (N (x.s i).v.f.t.v), .int .u64 (N (x.s i).v.f.t.m), .int .u64 (N (x.s i).v.f.s.lo), .int .u64 (N (x.s i).v.f.s.hi), .int .i64 (x.s i).v.i, .int .i64 (x.s i).v.off, .int .u8 (N8 (x.s i).p)]) w := by
  simp only [part, Sem.run_bind, Try.isAgg35 w, Try.sizeOf35 w, Result.andThen_ok, if_true, Sem.run_pure, x.slots_slot hi]
  rfl
theorem info_val : ∃ i, Try.prog.info? 31 = some i := Option.isSome_iff_exists.1 (by kernel_rfl)
theorem info_slot : ∃ i, Try.prog.info? 35 = some i := Option.isSome_iff_exists.1 (by kernel_rfl)
theorem cells_val : Try.prog.cellsOf 31 = 7 := by kernel_rfl
theorem cells_slot : Try.prog.cellsOf 35 = 8 := by kernel_rfl
theorem eq_regs (d : Nat) (x : St) (w : World) : (Op.equalIn (d + 6) 33 (.agg x.regs) (.agg x.regs)).run Try.prog w = .ok true w := by
  obtain ⟨i, hi⟩ := info_val
  rw [run_equalIn_array w (d + 5) x.regs x.regs Try.underlying33 hi, cells_val]
  exact eqItems_refl w _ _ _ _ _ fun k hk => ⟨_, part_reg x k (by simpa using hk) w, eq_val d _ w⟩
theorem eq_slots (d : Nat) (x : St) (w : World) : (Op.equalIn (d + 7) 36 (.agg x.slots) (.agg x.slots)).run Try.prog w = .ok true w := by
  obtain ⟨i, hi⟩ := info_slot
  rw [run_equalIn_array w (d + 6) x.slots x.slots Try.underlying36 hi, cells_slot]
  exact eqItems_refl w _ _ _ _ _ fun k hk => ⟨_, part_slot x k (by simpa using hk) w, eq_slot d _ w⟩
theorem part_regs (x : St) (w : World) : (part 33 x.cells 0).run Try.prog w = .ok (.agg x.regs) w := by
  simp only [part, Sem.run_bind, Try.isAgg33 w, Try.sizeOf33 w, Result.andThen_ok, if_true, Sem.run_pure, Nat.zero_add, x.cells_regs]
theorem part_slots (x : St) (w : World) : (part 36 x.cells 77).run Try.prog w = .ok (.agg x.slots) w := by
  simp only [part, Sem.run_bind, Try.isAgg36 w, Try.sizeOf36 w, Result.andThen_ok, if_true, Sem.run_pure, Nat.reduceAdd, x.cells_slots]
theorem eq_state (d : Nat) (x : St) (w : World) : (Op.equalIn (d + 8) 38 (.agg x.cells) (.agg x.cells)).run Try.prog w = .ok true w := by
  rw [run_equalIn_struct w (d + 7) 38 x.cells x.cells (by kernel_rfl) (by kernel_rfl)]
  have e : (Try.prog.fieldsOf 38).toList = [⟨"Regs", 33, 0, false, "", "", 0⟩, ⟨"Slots", 36, 77, false, "", "", 616⟩] := by kernel_rfl
  rw [e]
  have h1 := eq_regs (d + 1) x w
  have h2 := eq_slots d x w
  simp [Op.eqFields, Result.andThen, part_regs, part_slots, h1, h2]
@[go_sem high] theorem eqS (x : St) (w : World) : Sem.run Try.prog (Op.equalIn 10000 38 (.agg x.cells) (.agg x.cells)) w = .ok true w := eq_state 9992 x w
@[go_sem high] theorem eqR (x : St) (w : World) : Sem.run Try.prog (Op.equalIn 10000 33 (.agg x.regs) (.agg x.regs)) w = .ok true w := eq_regs 9994 x w
@[go_sem high] theorem eqG (x : St) (w : World) : Sem.run Try.prog (Op.equalIn 10000 36 (.agg x.slots) (.agg x.slots)) w = .ok true w := eq_slots 9993 x w
@[go_sem] theorem regs_setV (x : St) (i : Nat) (v : Vl) : (x.setV i v).regs = x.regs := rowOf_congr fun k hk => by unfold St.cell; rw [if_pos hk, if_pos hk]; rfl
@[go_sem] theorem regs_setP (x : St) (i : Nat) (p : BitVec 8) : (x.setP i p).regs = x.regs := rowOf_congr fun k hk => by unfold St.cell; rw [if_pos hk, if_pos hk]; rfl
@[go_sem] theorem slots_setR (x : St) (i : Nat) (v : Vl) : (x.setR i v).slots = x.slots := rowOf_congr fun k hk => by unfold St.cell; rw [if_neg (by omega), if_neg (by omega)]; rfl

end Hk
