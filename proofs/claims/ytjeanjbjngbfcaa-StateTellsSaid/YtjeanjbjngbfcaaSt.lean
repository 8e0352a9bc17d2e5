/- What is known of registers and the stack, as functions: eleven registers, sixty-four slots; their cells; no program in sight. No condition but those in each statement. -/
import Derived.Test.YtjeanjbjngbfcaaVl
namespace Hk
set_option linter.unusedVariables false
set_option linter.unusedSimpArgs false
open Go
/-- a byte as the model's number -/
def N8 (x : BitVec 8) : Int := x.toNat
theorem N8_inj (x y : BitVec 8) : N8 x = N8 y ↔ x = y := by
  unfold N8; rw [Int.natCast_inj]; exact BitVec.toNat_inj
structure Sl where
  v : Vl
  p : BitVec 8
structure St where
  r : Nat → Vl
  s : Nat → Sl
def Vl.cell (v : Vl) : Nat → Value
  | 0 => .int .u8 v.k
  | 1 => .int .u64 (N v.f.t.v)
  | 2 => .int .u64 (N v.f.t.m)
  | 3 => .int .u64 (N v.f.s.lo)
  | 4 => .int .u64 (N v.f.s.hi)
  | 5 => .int .i64 v.i
  | 6 => .int .i64 v.off
  | _ => undef
def Sl.cell (x : Sl) (k : Nat) : Value := if k = 7 then .int .u8 (N8 x.p) else x.v.cell k
def rowOf (n : Nat) (f : Nat → Value) : Array Value := ((List.range n).map f).toArray
theorem rowOf_size (n : Nat) (f : Nat → Value) : (rowOf n f).size = n := by simp [rowOf]
theorem rowOf_get (n : Nat) (f : Nat → Value) (k : Nat) : (rowOf n f)[k]? = if k < n then some (f k) else none := by
  unfold rowOf
  rw [List.getElem?_toArray, List.getElem?_map]
  by_cases h : k < n
  · rw [if_pos h, List.getElem?_range h]; rfl
  · rw [if_neg h, List.getElem?_eq_none (by simpa using h)]; rfl
theorem rowOf_extract (n : Nat) (f : Nat → Value) (o m : Nat) (h : o + m ≤ n) : (rowOf n f).extract o (o + m) = rowOf m (fun j => f (o + j)) := by
  apply Array.ext_getElem?
  intro i
  rw [Array.getElem?_extract, rowOf_get, rowOf_size, rowOf_get, show min (o + m) n - o = m by omega]
  by_cases hi : i < m
  · rw [if_pos hi, if_pos hi, if_pos (by omega)]
  · rw [if_neg hi, if_neg hi]
theorem rowOf_congr {n : Nat} {f g : Nat → Value} (h : ∀ k, k < n → f k = g k) : rowOf n f = rowOf n g := by
  unfold rowOf
  congr 1
  apply List.map_congr_left
  intro k hk
  exact h k (by simpa using hk)
/-- a row, from a place on another one's cells -/
def putAt (c : Array Value) (o : Nat) (d : Array Value) : Array Value := rowOf c.size fun k => if o ≤ k ∧ k < o + d.size then d.getD (k - o) undef else c.getD k undef
theorem putAt_size (c : Array Value) (o : Nat) (d : Array Value) : (putAt c o d).size = c.size := rowOf_size ..
theorem rowOf_getD {n : Nat} {f : Nat → Value} {k : Nat} (h : k < n) : (rowOf n f).getD k undef = f k := by
  rw [Array.getD_eq_getD_getElem?, rowOf_get, if_pos h]; rfl
namespace St
def cell (x : St) (k : Nat) : Value := if k < 77 then (x.r (k / 7)).cell (k % 7) else (x.s ((k - 77) / 8)).cell ((k - 77) % 8)
def cells (x : St) : Array Value := rowOf 589 x.cell
def regs (x : St) : Array Value := rowOf 77 x.cell
def slots (x : St) : Array Value := rowOf 512 fun j => x.cell (77 + j)
def vals (v : Vl) : Array Value := #[.int .u8 v.k, .int .u64 (N v.f.t.v), .int .u64 (N v.f.t.m), .int .u64 (N v.f.s.lo), .int .u64 (N v.f.s.hi), .int .i64 v.i, .int .i64 v.off]
def slot (x : Sl) : Array Value := #[.int .u8 x.v.k, .int .u64 (N x.v.f.t.v), .int .u64 (N x.v.f.t.m), .int .u64 (N x.v.f.s.lo), .int .u64 (N x.v.f.s.hi), .int .i64 x.v.i, .int .i64 x.v.off, .int .u8 (N8 x.p)]
theorem cells_size (x : St) : x.cells.size = 589 := rowOf_size ..
theorem regs_size (x : St) : x.regs.size = 77 := rowOf_size ..
theorem slots_size (x : St) : x.slots.size = 512 := rowOf_size ..
theorem cells_ne (x : St) : ¬ x.cells = #[] := by intro h; have := x.cells_size; rw [h] at this; simp at this
theorem regs_ne (x : St) : ¬ x.regs = #[] := by intro h; have := x.regs_size; rw [h] at this; simp at this
theorem slots_ne (x : St) : ¬ x.slots = #[] := by intro h; have := x.slots_size; rw [h] at this; simp at this
theorem vals_row (v : Vl) : rowOf 7 v.cell = vals v := rfl
theorem slot_row (x : Sl) : rowOf 8 x.cell = slot x := rfl
theorem cell_reg (x : St) {i j : Nat} (hi : i < 11) (hj : j < 7) : x.cell (i * 7 + j) = (x.r i).cell j := by
  unfold cell
  rw [if_pos (by omega), show (i * 7 + j) / 7 = i by omega, show (i * 7 + j) % 7 = j by omega]
theorem cell_slot (x : St) {i j : Nat} (hj : j < 8) : x.cell (77 + (i * 8 + j)) = (x.s i).cell j := by
  unfold cell
  rw [if_neg (by omega), show (77 + (i * 8 + j) - 77) / 8 = i by omega, show (77 + (i * 8 + j) - 77) % 8 = j by omega]
theorem cells_regs (x : St) : x.cells.extract 0 77 = x.regs := by
  have := rowOf_extract 589 x.cell 0 77 (by omega)
  rw [show 0 + 77 = 77 from rfl] at this
  unfold cells
  rw [this]
  exact rowOf_congr fun k _ => by rw [Nat.zero_add]
theorem cells_slots (x : St) : x.cells.extract 77 589 = x.slots := rowOf_extract 589 x.cell 77 512 (by omega)
theorem cells_val (x : St) {i : Nat} (hi : i < 11) : x.cells.extract (i * 7) (i * 7 + 7) = vals (x.r i) := by
  unfold cells
  rw [rowOf_extract _ _ _ _ (by omega), ← vals_row]
  exact rowOf_congr fun k hk => cell_reg x hi hk
theorem regs_val (x : St) {i : Nat} (hi : i < 11) : x.regs.extract (i * 7) (i * 7 + 7) = vals (x.r i) := by
  unfold regs
  rw [rowOf_extract _ _ _ _ (by omega), ← vals_row]
  exact rowOf_congr fun k hk => cell_reg x hi hk
theorem cells_slot (x : St) {i : Nat} (hi : i < 64) : x.cells.extract (77 + i * 8) (77 + i * 8 + 8) = slot (x.s i) := by
  unfold cells
  rw [rowOf_extract _ _ _ _ (by omega), ← slot_row]
  exact rowOf_congr fun k hk => by rw [Nat.add_assoc]; exact cell_slot x hk
theorem cells_slotv (x : St) {i : Nat} (hi : i < 64) : x.cells.extract (77 + i * 8) (77 + i * 8 + 7) = vals (x.s i).v := by
  unfold cells
  rw [rowOf_extract _ _ _ _ (by omega), ← vals_row]
  refine rowOf_congr fun k hk => ?_
  rw [Nat.add_assoc, cell_slot x (by omega)]
  unfold Sl.cell
  rw [if_neg (by omega)]
theorem slots_slot (x : St) {i : Nat} (hi : i < 64) : x.slots.extract (i * 8) (i * 8 + 8) = slot (x.s i) := by
  unfold slots
  rw [rowOf_extract _ _ _ _ (by omega), ← slot_row]
  exact rowOf_congr fun k hk => cell_slot x hk
theorem cells_put (x : St) {i : Nat} (hi : i < 64) : x.cells[77 + i * 8 + 7]? = some (.int .u8 (N8 (x.s i).p)) := by
  unfold cells
  rw [rowOf_get, if_pos (by omega), Nat.add_assoc, cell_slot x (by omega)]
  rfl
theorem cells_kind (x : St) {i : Nat} (hi : i < 64) : x.cells[77 + i * 8]? = some (.int .u8 (x.s i).v.k) := by
  unfold cells
  rw [rowOf_get, if_pos (by omega)]
  have := cell_slot x (i := i) (j := 0) (by omega)
  rw [Nat.add_zero] at this
  rw [this]
  rfl
/-- a state with a register, with a slot's Val, with a slot's bits -/
def setR (x : St) (i : Nat) (v : Vl) : St := ⟨fun k => if k = i then v else x.r k, x.s⟩
def setV (x : St) (i : Nat) (v : Vl) : St := ⟨x.r, fun k => if k = i then ⟨v, (x.s i).p⟩ else x.s k⟩
def setP (x : St) (i : Nat) (p : BitVec 8) : St := ⟨x.r, fun k => if k = i then ⟨(x.s i).v, p⟩ else x.s k⟩
def setS (x : St) (i : Nat) (y : Sl) : St := ⟨x.r, fun k => if k = i then y else x.s k⟩
theorem put_reg (x : St) {i : Nat} (hi : i < 11) (v : Vl) : putAt x.cells (i * 7) (vals v) = (x.setR i v).cells := by
  unfold putAt cells
  rw [rowOf_size]
  refine rowOf_congr fun k hk => ?_
  rw [rowOf_getD hk, ← vals_row, rowOf_size]
  unfold cell setR
  by_cases h : i * 7 ≤ k ∧ k < i * 7 + 7
  · rw [if_pos h, rowOf_getD (by omega), if_pos (by omega)]
    simp only
    rw [if_pos (by omega), show k % 7 = k - i * 7 by omega]
  · rw [if_neg h]
    by_cases h2 : k < 77
    · rw [if_pos h2, if_pos h2]
      simp only
      rw [if_neg (by omega)]
    · rw [if_neg h2, if_neg h2]
theorem put_slotv (x : St) {i : Nat} (hi : i < 64) (v : Vl) : putAt x.cells (77 + i * 8) (vals v) = (x.setV i v).cells := by
  unfold putAt cells
  rw [rowOf_size]
  refine rowOf_congr fun k hk => ?_
  rw [rowOf_getD hk, ← vals_row, rowOf_size]
  unfold cell setV
  by_cases h2 : k < 77
  · rw [if_neg (by omega), if_pos h2, if_pos h2]
  · rw [if_neg h2, if_neg h2]
    simp only
    by_cases h : 77 + i * 8 ≤ k ∧ k < 77 + i * 8 + 7
    · rw [if_pos h, rowOf_getD (by omega), if_pos (by omega)]
      unfold Sl.cell
      rw [if_neg (by omega), show (k - 77) % 8 = k - (77 + i * 8) by omega]
    · rw [if_neg h]
      by_cases h3 : (k - 77) / 8 = i
      · rw [if_pos h3]
        have h4 : (k - 77) % 8 = 7 := by omega
        rw [h4, h3]
        rfl
      · rw [if_neg h3]
theorem put_slotp (x : St) {i : Nat} (hi : i < 64) (p : BitVec 8) : x.cells.setIfInBounds (77 + i * 8 + 7) (.int .u8 (N8 p)) = (x.setP i p).cells := by
  apply Array.ext_getElem?
  intro k
  rw [Array.getElem?_setIfInBounds]
  unfold cells
  rw [rowOf_size, rowOf_get, rowOf_get]
  by_cases h : 77 + i * 8 + 7 = k
  · subst h
    rw [if_pos rfl, if_pos (by omega), if_pos (by omega), Nat.add_assoc, cell_slot _ (by omega)]
    unfold setP Sl.cell
    simp
  · rw [if_neg h]
    by_cases hk : k < 589
    · rw [if_pos hk, if_pos hk]
      congr 1
      unfold cell setP
      by_cases h2 : k < 77
      · rw [if_pos h2, if_pos h2]
      · rw [if_neg h2, if_neg h2]
        simp only
        by_cases h3 : (k - 77) / 8 = i
        · rw [if_pos h3, h3]
          unfold Sl.cell
          rw [if_neg (by omega), if_neg (by omega)]
        · rw [if_neg h3]
    · rw [if_neg hk, if_neg hk]
theorem put_slot (x : St) {i : Nat} (hi : i < 64) (y : Sl) : putAt x.cells (77 + i * 8) (slot y) = (x.setS i y).cells := by
  unfold putAt cells
  rw [rowOf_size]
  refine rowOf_congr fun k hk => ?_
  rw [rowOf_getD hk, ← slot_row, rowOf_size]
  unfold cell setS
  by_cases h2 : k < 77
  · rw [if_neg (by omega), if_pos h2, if_pos h2]
  · rw [if_neg h2, if_neg h2]
    simp only
    by_cases h : 77 + i * 8 ≤ k ∧ k < 77 + i * 8 + 8
    · rw [if_pos h, rowOf_getD (by omega), if_pos (by omega), show (k - 77) % 8 = k - (77 + i * 8) by omega]
    · rw [if_neg h, if_neg (by omega)]
theorem put_all (x y : St) : putAt x.cells 0 y.cells = y.cells := by
  unfold putAt
  rw [cells_size, cells_size]
  unfold cells
  exact rowOf_congr fun k hk => by rw [if_pos (by omega), rowOf_getD (by omega)]; simp
end St
end Hk
