/- The rules of the walk for a state of registers and the stack, as one block of memory. No condition but those in each statement. -/
import Derived.Test.YtjeanjbjngbfcaaProg
import Derived.Test.YtjeanjbjngbfcaaGp
import Derived.Test.YtjeanjbjngbfcaaGu
import Derived.Test.YtjeanjbjngbfcaaVl1
import Derived.Test.YtjeanjbjngbfcaaVl4
import Derived.Deep.DeepCutAuto
namespace Hk
open Go Go.RowKit Go.Proofs
set_option linter.unusedSimpArgs false
set_option linter.unusedVariables false
set_option maxRecDepth 100000
attribute [go_sem] Tn.eta Sp.eta Fa.eta Vl.eta
attribute [go_sem] St.cells_size St.regs_size St.slots_size St.cells_ne St.regs_ne St.slots_ne St.cells_regs St.cells_slots putAt_size

@[go_sem] theorem zero_cells : Try.zeroCells38 = St.cells St.zero := by kernel_rfl
@[go_sem high] theorem addr_add (b o n : Nat) : Addr.add ⟨b, o, none⟩ n = ⟨b, o + n, none⟩ := by unfold Addr.add; split <;> simp_all

def oneAll (c : Array Value) : Prop := c.all (·.oneCell') = true
@[go_sem] theorem one_cells (x : St) : oneAll x.cells := x.cells_one
@[go_sem] theorem one_vals (k a b c d i o : Int) : oneAll #[.int .u8 k, .int .u64 a, .int .u64 b, .int .u64 c, .int .u64 d, .int .i64 i, .int .i64 o] := by simp [oneAll, Value.oneCell']
@[go_sem] theorem one_slot (k a b c d i o p : Int) : oneAll #[.int .u8 k, .int .u64 a, .int .u64 b, .int .u64 c, .int .u64 d, .int .i64 i, .int .i64 o, .int .u8 p] := by simp [oneAll, Value.oneCell']

def ldS (x : Value) : Sem Value := Instr.loadAt 38 x
@[go_sem ↓] theorem ldS_at (x : Value) : Instr.loadAt 38 x = ldS x := rfl
def ldR (x : Value) : Sem Value := Instr.loadAt 33 x
@[go_sem ↓] theorem ldR_at (x : Value) : Instr.loadAt 33 x = ldR x := rfl
def ldG (x : Value) : Sem Value := Instr.loadAt 36 x
@[go_sem ↓] theorem ldG_at (x : Value) : Instr.loadAt 36 x = ldG x := rfl
def ldV (x : Value) : Sem Value := Instr.loadAt 31 x
@[go_sem ↓] theorem ldV_at (x : Value) : Instr.loadAt 31 x = ldV x := rfl
def ldL (x : Value) : Sem Value := Instr.loadAt 35 x
@[go_sem ↓] theorem ldL_at (x : Value) : Instr.loadAt 35 x = ldL x := rfl
def stS (x v : Value) : Sem Unit := Instr.storeAt 38 x v
@[go_sem ↓] theorem stS_at (x v : Value) : Instr.storeAt 38 x v = stS x v := rfl
def stV (x v : Value) : Sem Unit := Instr.storeAt 31 x v
@[go_sem ↓] theorem stV_at (x v : Value) : Instr.storeAt 31 x v = stV x v := rfl
def stL (x v : Value) : Sem Unit := Instr.storeAt 35 x v
@[go_sem ↓] theorem stL_at (x v : Value) : Instr.storeAt 35 x v = stL x v := rfl
@[go_sem] theorem ldV_lit (w : World) (b n : Nat) : Sem.run Try.prog (ldV (.pointer (some ⟨b, no_index (OfNat.ofNat n), none⟩))) w = Sem.run Try.prog (loadVar 31 ⟨b, OfNat.ofNat n, none⟩) w := by
  simp only [ldV, Instr.loadAt, Instr.sureAddr, Sem.run_bind, Sem.run_pure, Result.andThen]

@[go_sem] theorem stV_lit (w : World) (b n : Nat) (c : Array Value) : Sem.run Try.prog (stV (.pointer (some ⟨b, no_index (OfNat.ofNat n), none⟩)) (.agg c)) w = Sem.run Try.prog (storeVar 31 ⟨b, OfNat.ofNat n, none⟩ (.agg c)) w := by
  simp only [stV, Instr.storeAt, Instr.sureAddr, Sem.run_bind, Sem.run_pure, Result.andThen]

@[go_sem] theorem ldL_lit (w : World) (b n : Nat) : Sem.run Try.prog (ldL (.pointer (some ⟨b, no_index (OfNat.ofNat n), none⟩))) w = Sem.run Try.prog (loadVar 35 ⟨b, OfNat.ofNat n, none⟩) w := by
  simp only [ldL, Instr.loadAt, Instr.sureAddr, Sem.run_bind, Sem.run_pure, Result.andThen]

@[go_sem] theorem stL_lit (w : World) (b n : Nat) (c : Array Value) : Sem.run Try.prog (stL (.pointer (some ⟨b, no_index (OfNat.ofNat n), none⟩)) (.agg c)) w = Sem.run Try.prog (storeVar 35 ⟨b, OfNat.ofNat n, none⟩ (.agg c)) w := by
  simp only [stL, Instr.storeAt, Instr.sureAddr, Sem.run_bind, Sem.run_pure, Result.andThen]

theorem bl_st_var (w : World) (b : Nat) (h : (blk w b).size = 589) : Sem.run Try.prog (loadVar 38 ⟨b, 0, none⟩) w = .ok (.agg (blk w b)) w := by
  rw [run_loadVar_blk w _ b (0) 589 (Try.isAgg38 w) (Try.sizeOf38 w) (by omega)]
  congr 2
  apply Array.ext_getElem?
  intro i
  rw [Array.getElem?_extract]
  by_cases hi : i < 589
  · rw [if_pos (by omega), Nat.zero_add]
  · rw [if_neg (by omega), Array.getElem?_eq_none (by omega)]

@[go_sem] theorem bl_st_run (w : World) (b : Nat) (h : (blk w b).size = 589) : Sem.run Try.prog (ldS (.pointer (some ⟨b, 0, none⟩))) w = .ok (.agg (blk w b)) w := by
  simp only [ldS, Instr.loadAt, Instr.sureAddr, Sem.run_bind, Sem.run_pure, Result.andThen]
  exact bl_st_var w b h

theorem bl_regs_var (w : World) (b : Nat) (h : (blk w b).size = 589) : Sem.run Try.prog (loadVar 33 ⟨b, 0, none⟩) w = .ok (.agg ((blk w b).extract 0 77)) w := run_loadVar_blk w _ b (0) 77 (Try.isAgg33 w) (Try.sizeOf33 w) (by omega)
@[go_sem] theorem bl_regs_run (w : World) (b : Nat) (h : (blk w b).size = 589) : Sem.run Try.prog (ldR (.pointer (some ⟨b, 0, none⟩))) w = .ok (.agg ((blk w b).extract 0 77)) w := by
  simp only [ldR, Instr.loadAt, Instr.sureAddr, Sem.run_bind, Sem.run_pure, Result.andThen]
  exact bl_regs_var w b h

theorem bl_slots_var (w : World) (b : Nat) (h : (blk w b).size = 589) : Sem.run Try.prog (loadVar 36 ⟨b, 77, none⟩) w = .ok (.agg ((blk w b).extract 77 589)) w := run_loadVar_blk w _ b (77) 512 (Try.isAgg36 w) (Try.sizeOf36 w) (by omega)
@[go_sem] theorem bl_slots_run (w : World) (b : Nat) (h : (blk w b).size = 589) : Sem.run Try.prog (ldG (.pointer (some ⟨b, 77, none⟩))) w = .ok (.agg ((blk w b).extract 77 589)) w := by
  simp only [ldG, Instr.loadAt, Instr.sureAddr, Sem.run_bind, Sem.run_pure, Result.andThen]
  exact bl_slots_var w b h

theorem bl_val_var (w : World) (b i : Nat) (h : (blk w b).size = 589) (hi : i < 11) : Sem.run Try.prog (loadVar 31 ⟨b, i * 7, none⟩) w = .ok (.agg ((blk w b).extract (i * 7) (i * 7 + 7))) w := run_loadVar_blk w _ b (i * 7) 7 (Try.isAgg31 w) (Try.sizeOf31 w) (by omega)
@[go_sem] theorem bl_val_run (w : World) (b i : Nat) (h : (blk w b).size = 589) (hi : i < 11) : Sem.run Try.prog (ldV (.pointer (some ⟨b, i * 7, none⟩))) w = .ok (.agg ((blk w b).extract (i * 7) (i * 7 + 7))) w := by
  simp only [ldV, Instr.loadAt, Instr.sureAddr, Sem.run_bind, Sem.run_pure, Result.andThen]
  exact bl_val_var w b i h hi

theorem bl_sval_var (w : World) (b i : Nat) (h : (blk w b).size = 589) (hi : i < 64) : Sem.run Try.prog (loadVar 31 ⟨b, 77 + i * 8, none⟩) w = .ok (.agg ((blk w b).extract (77 + i * 8) (77 + i * 8 + 7))) w := run_loadVar_blk w _ b (77 + i * 8) 7 (Try.isAgg31 w) (Try.sizeOf31 w) (by omega)
@[go_sem] theorem bl_sval_run (w : World) (b i : Nat) (h : (blk w b).size = 589) (hi : i < 64) : Sem.run Try.prog (ldV (.pointer (some ⟨b, 77 + i * 8, none⟩))) w = .ok (.agg ((blk w b).extract (77 + i * 8) (77 + i * 8 + 7))) w := by
  simp only [ldV, Instr.loadAt, Instr.sureAddr, Sem.run_bind, Sem.run_pure, Result.andThen]
  exact bl_sval_var w b i h hi

theorem bl_slot_var (w : World) (b i : Nat) (h : (blk w b).size = 589) (hi : i < 64) : Sem.run Try.prog (loadVar 35 ⟨b, 77 + i * 8, none⟩) w = .ok (.agg ((blk w b).extract (77 + i * 8) (77 + i * 8 + 8))) w := run_loadVar_blk w _ b (77 + i * 8) 8 (Try.isAgg35 w) (Try.sizeOf35 w) (by omega)
@[go_sem] theorem bl_slot_run (w : World) (b i : Nat) (h : (blk w b).size = 589) (hi : i < 64) : Sem.run Try.prog (ldL (.pointer (some ⟨b, 77 + i * 8, none⟩))) w = .ok (.agg ((blk w b).extract (77 + i * 8) (77 + i * 8 + 8))) w := by
  simp only [ldL, Instr.loadAt, Instr.sureAddr, Sem.run_bind, Sem.run_pure, Result.andThen]
  exact bl_slot_var w b i h hi

@[go_sem] theorem bs_st_run (w : World) (b : Nat) (c : Array Value) (h : (blk w b).size = 589) (hc : c.size = 589) (h1 : oneAll c) (hf : ∀ k, w.frozen? ⟨b, k, none⟩ = false) : Sem.run Try.prog (stS (.pointer (some ⟨b, 0, none⟩)) (.agg c)) w = .ok () (w.setRow b c) := by
  simp only [stS, Instr.storeAt, Instr.sureAddr, Sem.run_bind, Sem.run_pure, Result.andThen]
  rw [run_storeVar_blk w _ b 0 589 c (Try.sizeOf38 w) hc h1 (by omega) hf]
  congr 2
  unfold putAt
  rw [h, hc]
  apply Array.ext_getElem?
  intro k
  rw [rowOf_get]
  by_cases hk : k < 589
  · rw [if_pos hk, if_pos (by omega), Nat.sub_zero, Array.getD_eq_getD_getElem?, Array.getElem?_eq_getElem (by omega)]; rfl
  · rw [if_neg hk, Array.getElem?_eq_none (by omega)]

@[go_sem] theorem bs_val_run (w : World) (b i : Nat) (c : Array Value) (h : (blk w b).size = 589) (hc : c.size = 7) (h1 : oneAll c) (hf : ∀ k, w.frozen? ⟨b, k, none⟩ = false) (hi : i < 11) : Sem.run Try.prog (stV (.pointer (some ⟨b, i * 7, none⟩)) (.agg c)) w = .ok () (w.setRow b (putAt (blk w b) (i * 7) c)) := by
  simp only [stV, Instr.storeAt, Instr.sureAddr, Sem.run_bind, Sem.run_pure, Result.andThen]
  exact run_storeVar_blk w _ b (i * 7) 7 _ (Try.sizeOf31 w) hc h1 (by omega) hf

@[go_sem] theorem bs_sval_run (w : World) (b i : Nat) (c : Array Value) (h : (blk w b).size = 589) (hc : c.size = 7) (h1 : oneAll c) (hf : ∀ k, w.frozen? ⟨b, k, none⟩ = false) (hi : i < 64) : Sem.run Try.prog (stV (.pointer (some ⟨b, 77 + i * 8, none⟩)) (.agg c)) w = .ok () (w.setRow b (putAt (blk w b) (77 + i * 8) c)) := by
  simp only [stV, Instr.storeAt, Instr.sureAddr, Sem.run_bind, Sem.run_pure, Result.andThen]
  exact run_storeVar_blk w _ b (77 + i * 8) 7 _ (Try.sizeOf31 w) hc h1 (by omega) hf

@[go_sem] theorem bs_slot_run (w : World) (b i : Nat) (c : Array Value) (h : (blk w b).size = 589) (hc : c.size = 8) (h1 : oneAll c) (hf : ∀ k, w.frozen? ⟨b, k, none⟩ = false) (hi : i < 64) : Sem.run Try.prog (stL (.pointer (some ⟨b, 77 + i * 8, none⟩)) (.agg c)) w = .ok () (w.setRow b (putAt (blk w b) (77 + i * 8) c)) := by
  simp only [stL, Instr.storeAt, Instr.sureAddr, Sem.run_bind, Sem.run_pure, Result.andThen]
  exact run_storeVar_blk w _ b (77 + i * 8) 8 _ (Try.sizeOf35 w) hc h1 (by omega) hf

@[go_sem] theorem c_val (x : St) (i : Nat) : x.cells.extract (i * 7) (i * 7 + 7) = if i < 11 then #[.int .u8 (x.r i).k, .int .u64 (N (x.r i).f.t.v), .int .u64 (N (x.r i).f.t.m), .int .u64 (N (x.r i).f.s.lo), .int .u64 (N (x.r i).f.s.hi), .int .i64 (x.r i).i, .int .i64 (x.r i).off] else rawE x.cells (i * 7) 7 := by
  split
  · exact x.cells_val (by assumption)
  · rfl

@[go_sem] theorem r_val (x : St) (i : Nat) : x.regs.extract (i * 7) (i * 7 + 7) = if i < 11 then #[.int .u8 (x.r i).k, .int .u64 (N (x.r i).f.t.v), .int .u64 (N (x.r i).f.t.m), .int .u64 (N (x.r i).f.s.lo), .int .u64 (N (x.r i).f.s.hi), .int .i64 (x.r i).i, .int .i64 (x.r i).off] else rawE x.regs (i * 7) 7 := by
  split
  · exact x.regs_val (by assumption)
  · rfl

@[go_sem] theorem c_slot (x : St) (i : Nat) : x.cells.extract (77 + i * 8) (77 + i * 8 + 8) = if i < 64 then #[.int .u8 (x.s i).v.k, .int .u64 (N (x.s i).v.f.t.v), .int .u64 (N (x.s i).v.f.t.m), .int .u64 (N (x.s i).v.f.s.lo), .int .u64 (N (x.s i).v.f.s.hi), .int .i64 (x.s i).v.i, .int .i64 (x.s i).v.off, .int .u8 (N8 (x.s i).p)] else rawE x.cells (77 + i * 8) 8 := by
  split
  · exact x.cells_slot (by assumption)
  · rfl

@[go_sem] theorem c_slotv (x : St) (i : Nat) : x.cells.extract (77 + i * 8) (77 + i * 8 + 7) = if i < 64 then #[.int .u8 (x.s i).v.k, .int .u64 (N (x.s i).v.f.t.v), .int .u64 (N (x.s i).v.f.t.m), .int .u64 (N (x.s i).v.f.s.lo), .int .u64 (N (x.s i).v.f.s.hi), .int .i64 (x.s i).v.i, .int .i64 (x.s i).v.off] else rawE x.cells (77 + i * 8) 7 := by
  split
  · exact x.cells_slotv (by assumption)
  · rfl

@[go_sem] theorem s_slot (x : St) (i : Nat) : x.slots.extract (i * 8) (i * 8 + 8) = if i < 64 then #[.int .u8 (x.s i).v.k, .int .u64 (N (x.s i).v.f.t.v), .int .u64 (N (x.s i).v.f.t.m), .int .u64 (N (x.s i).v.f.s.lo), .int .u64 (N (x.s i).v.f.s.hi), .int .i64 (x.s i).v.i, .int .i64 (x.s i).v.off, .int .u8 (N8 (x.s i).p)] else rawE x.slots (i * 8) 8 := by
  split
  · exact x.slots_slot (by assumption)
  · rfl

@[go_sem] theorem c_put (x : St) (i : Nat) : x.cells[77 + i * 8 + 7]? = if i < 64 then some (.int .u8 (N8 (x.s i).p)) else rawG x.cells (77 + i * 8 + 7) := by
  split
  · exact x.cells_put (by assumption)
  · rfl

@[go_sem] theorem c_kind (x : St) (i : Nat) : x.cells[77 + i * 8]? = if i < 64 then some (.int .u8 (x.s i).v.k) else rawG x.cells (77 + i * 8) := by
  split
  · exact x.cells_kind (by assumption)
  · rfl

@[go_sem] theorem put_reg_r (x : St) (i : Nat) (hi : i < 11) (k : Int) (a b c d : BitVec 64) (m o : Int) : putAt x.cells (i * 7) #[.int .u8 k, .int .u64 (N a), .int .u64 (N b), .int .u64 (N c), .int .u64 (N d), .int .i64 m, .int .i64 o] = (x.setR i ⟨k, ⟨⟨a, b⟩, ⟨c, d⟩⟩, m, o⟩).cells := x.put_reg hi ⟨k, ⟨⟨a, b⟩, ⟨c, d⟩⟩, m, o⟩
@[go_sem] theorem put_sv_r (x : St) (i : Nat) (hi : i < 64) (k : Int) (a b c d : BitVec 64) (m o : Int) : putAt x.cells (77 + i * 8) #[.int .u8 k, .int .u64 (N a), .int .u64 (N b), .int .u64 (N c), .int .u64 (N d), .int .i64 m, .int .i64 o] = (x.setV i ⟨k, ⟨⟨a, b⟩, ⟨c, d⟩⟩, m, o⟩).cells := x.put_slotv hi ⟨k, ⟨⟨a, b⟩, ⟨c, d⟩⟩, m, o⟩
@[go_sem] theorem put_slot_r (x : St) (i : Nat) (hi : i < 64) (k : Int) (a b c d : BitVec 64) (m o : Int) (p : BitVec 8) : putAt x.cells (77 + i * 8) #[.int .u8 k, .int .u64 (N a), .int .u64 (N b), .int .u64 (N c), .int .u64 (N d), .int .i64 m, .int .i64 o, .int .u8 (N8 p)] = (x.setS i ⟨⟨k, ⟨⟨a, b⟩, ⟨c, d⟩⟩, m, o⟩, p⟩).cells := x.put_slot hi ⟨⟨k, ⟨⟨a, b⟩, ⟨c, d⟩⟩, m, o⟩, p⟩
@[go_sem] theorem put_p_r (x : St) (i : Nat) (hi : i < 64) (p : BitVec 8) : x.cells.setIfInBounds (77 + i * 8 + 7) (.int .u8 (N8 p)) = (x.setP i p).cells := x.put_slotp hi p

@[go_sem] theorem ix_reg (w : World) (x : St) (i : Nat) (hi : i < 11) : Sem.run Try.prog (Instr.index 33 (.agg x.regs) (.int .i64 (i : Int))) w = .ok (.agg #[.int .u8 (x.r i).k, .int .u64 (N (x.r i).f.t.v), .int .u64 (N (x.r i).f.t.m), .int .u64 (N (x.r i).f.s.lo), .int .u64 (N (x.r i).f.s.hi), .int .i64 (x.r i).i, .int .i64 (x.r i).off]) w := by
  have h1 : (0 : Int) ≤ (i : Int) ∧ (i : Int) < ((11 : Nat) : Int) := ⟨by omega, by omega⟩
  simp only [Instr.index, asIntOf, Sem.run_bind, Sem.run_pure, Result.andThen, run_underlying Try.underlying33, h1, and_self, if_true, Int.toNat_natCast, part, Try.isAgg31 w, Try.sizeOf31 w, x.regs_val hi]
  rfl

@[go_sem] theorem ix_slot (w : World) (x : St) (i : Nat) (hi : i < 64) : Sem.run Try.prog (Instr.index 36 (.agg x.slots) (.int .i64 (i : Int))) w = .ok (.agg #[.int .u8 (x.s i).v.k, .int .u64 (N (x.s i).v.f.t.v), .int .u64 (N (x.s i).v.f.t.m), .int .u64 (N (x.s i).v.f.s.lo), .int .u64 (N (x.s i).v.f.s.hi), .int .i64 (x.s i).v.i, .int .i64 (x.s i).v.off, .int .u8 (N8 (x.s i).p)]) w := by
  have h1 : (0 : Int) ≤ (i : Int) ∧ (i : Int) < ((64 : Nat) : Int) := ⟨by omega, by omega⟩
  simp only [Instr.index, asIntOf, Sem.run_bind, Sem.run_pure, Result.andThen, run_underlying Try.underlying36, h1, and_self, if_true, Int.toNat_natCast, part, Try.isAgg35 w, Try.sizeOf35 w, x.slots_slot hi]
  rfl

end Hk
