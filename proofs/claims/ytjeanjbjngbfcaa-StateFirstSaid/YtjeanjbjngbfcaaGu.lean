/- What is known of registers and the stack, as functions: eleven registers, sixty-four slots; their cells; no program in sight. No condition but those in each statement. Bytes as the model has them: how the walk reckons with 8-bit numbers that are kept as bit vectors. No condition. A great block of memory, as one array: what a load and a store of a part of it do, as rules of the walk. No condition but those in each statement. What is known of registers and the stack: the document's words in plain Lean, no program in sight. No condition but those in each statement. What is got of the stack: plain laws, no program in sight. No condition but those in each statement. What is put to the stack, bit by bit: plain laws, no program in sight. No condition but those in each statement. Acts that make a state: plain words, and how they stand in memory; no program in sight. No condition but those in each statement. -/
import Derived.Test.YtjeanjbjngbfcaaGv
import Derived.Test.YtjeanjbjngbfcaaGp
import Derived.Laws.Rows
import Derived.Laws.Tables
namespace Hk
set_option linter.unusedVariables false
set_option linter.unusedSimpArgs false
open Go
/-- a byte as the model's number -/
def N8 (x : BitVec 8) : Int := x.toNat
theorem N8_inj (x y : BitVec 8) : N8 x = N8 y ↔ x = y := by
  unfold N8; rw [Int.natCast_inj]; exact BitVec.toNat_inj
structure Sl where
  v : Vl
  p : BitVec 8
structure St where
  r : Nat → Vl
  s : Nat → Sl
def Vl.cell (v : Vl) : Nat → Value
  | 0 => .int .u8 v.k
  | 1 => .int .u64 (N v.f.t.v)
  | 2 => .int .u64 (N v.f.t.m)
  | 3 => .int .u64 (N v.f.s.lo)
  | 4 => .int .u64 (N v.f.s.hi)
  | 5 => .int .i64 v.i
  | 6 => .int .i64 v.off
  | _ => undef
def Sl.cell (x : Sl) (k : Nat) : Value := if k = 7 then .int .u8 (N8 x.p) else x.v.cell k
def rowOf (n : Nat) (f : Nat → Value) : Array Value := ((List.range n).map f).toArray
theorem rowOf_size (n : Nat) (f : Nat → Value) : (rowOf n f).size = n := by simp [rowOf]
theorem rowOf_get (n : Nat) (f : Nat → Value) (k : Nat) : (rowOf n f)[k]? = if k < n then some (f k) else none := by
  unfold rowOf
  rw [List.getElem?_toArray, List.getElem?_map]
  by_cases h : k < n
  · rw [if_pos h, List.getElem?_range h]; rfl
  · rw [if_neg h, List.getElem?_eq_none (by simpa using h)]; rfl
theorem rowOf_extract (n : Nat) (f : Nat → Value) (o m : Nat) (h : o + m ≤ n) : (rowOf n f).extract o (o + m) = rowOf m (fun j => f (o + j)) := by
  apply Array.ext_getElem?
  intro i
  rw [Array.getElem?_extract, rowOf_get, rowOf_size, rowOf_get, show min (o + m) n - o = m by omega]
  by_cases hi : i < m
  · rw [if_pos hi, if_pos hi, if_pos (by omega)]
  · rw [if_neg hi, if_neg hi]
theorem rowOf_congr {n : Nat} {f g : Nat → Value} (h : ∀ k, k < n → f k = g k) : rowOf n f = rowOf n g := by
  unfold rowOf
  congr 1
  apply List.map_congr_left
  intro k hk
  exact h k (by simpa using hk)
/-- a row, from a place on another one's cells -/
def putAt (c : Array Value) (o : Nat) (d : Array Value) : Array Value := rowOf c.size fun k => if o ≤ k ∧ k < o + d.size then d.getD (k - o) undef else c.getD k undef
theorem putAt_size (c : Array Value) (o : Nat) (d : Array Value) : (putAt c o d).size = c.size := rowOf_size ..
theorem rowOf_getD {n : Nat} {f : Nat → Value} {k : Nat} (h : k < n) : (rowOf n f).getD k undef = f k := by
  rw [Array.getD_eq_getD_getElem?, rowOf_get, if_pos h]; rfl
namespace St
def cell (x : St) (k : Nat) : Value := if k < 77 then (x.r (k / 7)).cell (k % 7) else (x.s ((k - 77) / 8)).cell ((k - 77) % 8)
def cells (x : St) : Array Value := rowOf 589 x.cell
def regs (x : St) : Array Value := rowOf 77 x.cell
def slots (x : St) : Array Value := rowOf 512 fun j => x.cell (77 + j)
def vals (v : Vl) : Array Value := #[.int .u8 v.k, .int .u64 (N v.f.t.v), .int .u64 (N v.f.t.m), .int .u64 (N v.f.s.lo), .int .u64 (N v.f.s.hi), .int .i64 v.i, .int .i64 v.off]
def slot (x : Sl) : Array Value := #[.int .u8 x.v.k, .int .u64 (N x.v.f.t.v), .int .u64 (N x.v.f.t.m), .int .u64 (N x.v.f.s.lo), .int .u64 (N x.v.f.s.hi), .int .i64 x.v.i, .int .i64 x.v.off, .int .u8 (N8 x.p)]
theorem cells_size (x : St) : x.cells.size = 589 := rowOf_size ..
theorem regs_size (x : St) : x.regs.size = 77 := rowOf_size ..
theorem slots_size (x : St) : x.slots.size = 512 := rowOf_size ..
theorem cells_ne (x : St) : ¬ x.cells = #[] := by intro h; have := x.cells_size; rw [h] at this; simp at this
theorem regs_ne (x : St) : ¬ x.regs = #[] := by intro h; have := x.regs_size; rw [h] at this; simp at this
theorem slots_ne (x : St) : ¬ x.slots = #[] := by intro h; have := x.slots_size; rw [h] at this; simp at this
theorem vals_row (v : Vl) : rowOf 7 v.cell = vals v := rfl
theorem slot_row (x : Sl) : rowOf 8 x.cell = slot x := rfl
theorem cell_reg (x : St) {i j : Nat} (hi : i < 11) (hj : j < 7) : x.cell (i * 7 + j) = (x.r i).cell j := by
  unfold cell
  rw [if_pos (by omega), show (i * 7 + j) / 7 = i by omega, show (i * 7 + j) % 7 = j by omega]
theorem cell_slot (x : St) {i j : Nat} (hj : j < 8) : x.cell (77 + (i * 8 + j)) = (x.s i).cell j := by
  unfold cell
  rw [if_neg (by omega), show (77 + (i * 8 + j) - 77) / 8 = i by omega, show (77 + (i * 8 + j) - 77) % 8 = j by omega]
theorem cells_regs (x : St) : x.cells.extract 0 77 = x.regs := by
  have := rowOf_extract 589 x.cell 0 77 (by omega)
  rw [show 0 + 77 = 77 from rfl] at this
  unfold cells
  rw [this]
  exact rowOf_congr fun k _ => by rw [Nat.zero_add]
theorem cells_slots (x : St) : x.cells.extract 77 589 = x.slots := rowOf_extract 589 x.cell 77 512 (by omega)
theorem cells_val (x : St) {i : Nat} (hi : i < 11) : x.cells.extract (i * 7) (i * 7 + 7) = vals (x.r i) := by
  unfold cells
  rw [rowOf_extract _ _ _ _ (by omega), ← vals_row]
  exact rowOf_congr fun k hk => cell_reg x hi hk
theorem regs_val (x : St) {i : Nat} (hi : i < 11) : x.regs.extract (i * 7) (i * 7 + 7) = vals (x.r i) := by
  unfold regs
  rw [rowOf_extract _ _ _ _ (by omega), ← vals_row]
  exact rowOf_congr fun k hk => cell_reg x hi hk
theorem cells_slot (x : St) {i : Nat} (hi : i < 64) : x.cells.extract (77 + i * 8) (77 + i * 8 + 8) = slot (x.s i) := by
  unfold cells
  rw [rowOf_extract _ _ _ _ (by omega), ← slot_row]
  exact rowOf_congr fun k hk => by rw [Nat.add_assoc]; exact cell_slot x hk
theorem cells_slotv (x : St) {i : Nat} (hi : i < 64) : x.cells.extract (77 + i * 8) (77 + i * 8 + 7) = vals (x.s i).v := by
  unfold cells
  rw [rowOf_extract _ _ _ _ (by omega), ← vals_row]
  refine rowOf_congr fun k hk => ?_
  rw [Nat.add_assoc, cell_slot x (by omega)]
  unfold Sl.cell
  rw [if_neg (by omega)]
theorem slots_slot (x : St) {i : Nat} (hi : i < 64) : x.slots.extract (i * 8) (i * 8 + 8) = slot (x.s i) := by
  unfold slots
  rw [rowOf_extract _ _ _ _ (by omega), ← slot_row]
  exact rowOf_congr fun k hk => cell_slot x hk
theorem cells_put (x : St) {i : Nat} (hi : i < 64) : x.cells[77 + i * 8 + 7]? = some (.int .u8 (N8 (x.s i).p)) := by
  unfold cells
  rw [rowOf_get, if_pos (by omega), Nat.add_assoc, cell_slot x (by omega)]
  rfl
theorem cells_kind (x : St) {i : Nat} (hi : i < 64) : x.cells[77 + i * 8]? = some (.int .u8 (x.s i).v.k) := by
  unfold cells
  rw [rowOf_get, if_pos (by omega)]
  have := cell_slot x (i := i) (j := 0) (by omega)
  rw [Nat.add_zero] at this
  rw [this]
  rfl
/-- a state with a register, with a slot's Val, with a slot's bits -/
def setR (x : St) (i : Nat) (v : Vl) : St := ⟨fun k => if k = i then v else x.r k, x.s⟩
def setV (x : St) (i : Nat) (v : Vl) : St := ⟨x.r, fun k => if k = i then ⟨v, (x.s i).p⟩ else x.s k⟩
def setP (x : St) (i : Nat) (p : BitVec 8) : St := ⟨x.r, fun k => if k = i then ⟨(x.s i).v, p⟩ else x.s k⟩
def setS (x : St) (i : Nat) (y : Sl) : St := ⟨x.r, fun k => if k = i then y else x.s k⟩
theorem put_reg (x : St) {i : Nat} (hi : i < 11) (v : Vl) : putAt x.cells (i * 7) (vals v) = (x.setR i v).cells := by
  unfold putAt cells
  rw [rowOf_size]
  refine rowOf_congr fun k hk => ?_
  rw [rowOf_getD hk, ← vals_row, rowOf_size]
  unfold cell setR
  by_cases h : i * 7 ≤ k ∧ k < i * 7 + 7
  · rw [if_pos h, rowOf_getD (by omega), if_pos (by omega)]
    simp only
    rw [if_pos (by omega), show k % 7 = k - i * 7 by omega]
  · rw [if_neg h]
    by_cases h2 : k < 77
    · rw [if_pos h2, if_pos h2]
      simp only
      rw [if_neg (by omega)]
    · rw [if_neg h2, if_neg h2]
theorem put_slotv (x : St) {i : Nat} (hi : i < 64) (v : Vl) : putAt x.cells (77 + i * 8) (vals v) = (x.setV i v).cells := by
  unfold putAt cells
  rw [rowOf_size]
  refine rowOf_congr fun k hk => ?_
  rw [rowOf_getD hk, ← vals_row, rowOf_size]
  unfold cell setV
  by_cases h2 : k < 77
  · rw [if_neg (by omega), if_pos h2, if_pos h2]
  · rw [if_neg h2, if_neg h2]
    simp only
    by_cases h : 77 + i * 8 ≤ k ∧ k < 77 + i * 8 + 7
    · rw [if_pos h, rowOf_getD (by omega), if_pos (by omega)]
      unfold Sl.cell
      rw [if_neg (by omega), show (k - 77) % 8 = k - (77 + i * 8) by omega]
    · rw [if_neg h]
      by_cases h3 : (k - 77) / 8 = i
      · rw [if_pos h3]
        have h4 : (k - 77) % 8 = 7 := by omega
        rw [h4, h3]
        rfl
      · rw [if_neg h3]
theorem put_slotp (x : St) {i : Nat} (hi : i < 64) (p : BitVec 8) : x.cells.setIfInBounds (77 + i * 8 + 7) (.int .u8 (N8 p)) = (x.setP i p).cells := by
  apply Array.ext_getElem?
  intro k
  rw [Array.getElem?_setIfInBounds]
  unfold cells
  rw [rowOf_size, rowOf_get, rowOf_get]
  by_cases h : 77 + i * 8 + 7 = k
  · subst h
    rw [if_pos rfl, if_pos (by omega), if_pos (by omega), Nat.add_assoc, cell_slot _ (by omega)]
    unfold setP Sl.cell
    simp
  · rw [if_neg h]
    by_cases hk : k < 589
    · rw [if_pos hk, if_pos hk]
      congr 1
      unfold cell setP
      by_cases h2 : k < 77
      · rw [if_pos h2, if_pos h2]
      · rw [if_neg h2, if_neg h2]
        simp only
        by_cases h3 : (k - 77) / 8 = i
        · rw [if_pos h3, h3]
          unfold Sl.cell
          rw [if_neg (by omega), if_neg (by omega)]
        · rw [if_neg h3]
    · rw [if_neg hk, if_neg hk]
theorem put_slot (x : St) {i : Nat} (hi : i < 64) (y : Sl) : putAt x.cells (77 + i * 8) (slot y) = (x.setS i y).cells := by
  unfold putAt cells
  rw [rowOf_size]
  refine rowOf_congr fun k hk => ?_
  rw [rowOf_getD hk, ← slot_row, rowOf_size]
  unfold cell setS
  by_cases h2 : k < 77
  · rw [if_neg (by omega), if_pos h2, if_pos h2]
  · rw [if_neg h2, if_neg h2]
    simp only
    by_cases h : 77 + i * 8 ≤ k ∧ k < 77 + i * 8 + 8
    · rw [if_pos h, rowOf_getD (by omega), if_pos (by omega), show (k - 77) % 8 = k - (77 + i * 8) by omega]
    · rw [if_neg h, if_neg (by omega)]
theorem put_all (x y : St) : putAt x.cells 0 y.cells = y.cells := by
  unfold putAt
  rw [cells_size, cells_size]
  unfold cells
  exact rowOf_congr fun k hk => by rw [if_pos (by omega), rowOf_getD (by omega)]; simp
end St
end Hk

namespace Hk
set_option linter.unusedVariables false
open Go Go.RowKit
theorem N8_lt (x : BitVec 8) : N8 x < 256 := by unfold N8; have := x.isLt; omega
theorem N8_nonneg (x : BitVec 8) : 0 ≤ N8 x := Int.natCast_nonneg _
theorem N8_ofNat (n : Nat) (h : n < 256) : N8 (BitVec.ofNat 8 n) = (n : Int) := by
  unfold N8; rw [BitVec.toNat_ofNat, Nat.mod_eq_of_lt h]
theorem N8_lit (n : Nat) (h : n < 256) : N8 (BitVec.ofNat 8 n) = (OfNat.ofNat n : Int) := N8_ofNat n h
theorem ofInt_N8 (x : BitVec 8) : BitVec.ofInt 8 (N8 x) = x := by
  unfold N8; rw [BitVec.ofInt_natCast, BitVec.ofNat_toNat, BitVec.setWidth_eq]
theorem wrap_toNat8 (x : BitVec 8) : IntKind.u8.wrap (x.toNat : Int) = N8 x := by
  have := x.isLt
  show (x.toNat : Int) % 256 = _
  unfold N8; omega
section
variable (x y : BitVec 8) (n : Nat)
@[go_sem] theorem N8_beq : (N8 x == N8 y) = (x == y) := by rw [Bool.eq_iff_iff, beq_iff_eq, beq_iff_eq]; exact N8_inj x y
@[go_sem] theorem N8_bne : (N8 x != N8 y) = !(x == y) := by unfold bne; rw [N8_beq]
@[go_sem] theorem N8_beq_lit (h : n < 256) : (N8 x == (no_index (OfNat.ofNat n))) = (x == BitVec.ofNat 8 n) := by rw [← N8_lit n h, N8_beq]
@[go_sem] theorem N8_bne_lit (h : n < 256) : (N8 x != (no_index (OfNat.ofNat n))) = !(x == BitVec.ofNat 8 n) := by rw [← N8_lit n h, N8_bne]
@[go_sem ↓] theorem op_and8 : Op.intBits .and .u8 (N8 x) (N8 y) = pure (.int .u8 (N8 (x &&& y))) := by
  simp only [Op.intBits, IntKind.bits, ofInt_N8, wrap_toNat8]; rfl
@[go_sem ↓] theorem op_or8 : Op.intBits .or .u8 (N8 x) (N8 y) = pure (.int .u8 (N8 (x ||| y))) := by
  simp only [Op.intBits, IntKind.bits, ofInt_N8, wrap_toNat8]; rfl
@[go_sem ↓] theorem op_andNot8 : Op.intBits .andNot .u8 (N8 x) (N8 y) = pure (.int .u8 (N8 (x &&& ~~~y))) := by
  simp only [Op.intBits, IntKind.bits, ofInt_N8, wrap_toNat8]; rfl
theorem wrap_sub8 : IntKind.u8.wrap (N8 x - N8 y) = N8 (x - y) := by
  show (N8 x - N8 y) % 256 = _
  unfold N8; rw [BitVec.toNat_sub]
  have := x.isLt; have := y.isLt
  omega
theorem wrap_add8 : IntKind.u8.wrap (N8 x + N8 y) = N8 (x + y) := by
  show (N8 x + N8 y) % 256 = _
  unfold N8; rw [BitVec.toNat_add]
  have := x.isLt; have := y.isLt
  omega
@[go_sem ↓] theorem op_sub8_lit (h : n < 256) : Op.intArith .sub .u8 (N8 x) (no_index (OfNat.ofNat n)) = pure (.int .u8 (N8 (x - BitVec.ofNat 8 n))) := by
  simp only [Op.intArith, ← N8_lit n h, wrap_sub8]
@[go_sem ↓] theorem op_add8 : Op.intArith .add .u8 (N8 x) (N8 y) = pure (.int .u8 (N8 (x + y))) := by
  simp only [Op.intArith, wrap_add8]
theorem N8_shl (k : Nat) : IntKind.u8.wrap (N8 x * 2 ^ (min k 8)) = N8 (x <<< k) := by
  show (N8 x * 2 ^ (min k 8)) % 256 = _
  unfold N8
  rw [BitVec.toNat_shiftLeft, Nat.shiftLeft_eq]
  have e : ((x.toNat : Int) * 2 ^ (min k 8)) = ((x.toNat * 2 ^ (min k 8) : Nat) : Int) := by rw [Int.natCast_mul, Int.natCast_pow]; rfl
  rw [e]
  have : x.toNat * 2 ^ (min k 8) % 2 ^ 8 = x.toNat * 2 ^ k % 2 ^ 8 := by
    rcases Nat.le_total k 8 with h | h
    · rw [Nat.min_eq_left h]
    · rw [Nat.min_eq_right h]
      obtain ⟨j, rfl⟩ := Nat.exists_eq_add_of_le h
      rw [Nat.pow_add, ← Nat.mul_assoc, Nat.mul_mod_left, Nat.mul_right_comm, Nat.mul_mod_left]
  rw [← this]; omega
theorem N8_shl' (k : Nat) (h : k ≤ 8) : N8 x * 2 ^ k % 256 = N8 (x <<< k) := by
  have := N8_shl x k
  rw [Nat.min_eq_left h] at this
  exact this
@[go_sem ↓] theorem op_shl8 (yk : IntKind) (k : Int) (h : 0 ≤ k) : Op.shift .shl .u8 (N8 x) yk k = pure (.int .u8 (N8 (x <<< k.toNat))) := by
  have hs := N8_shl x k.toNat
  simp only [Op.shift, show ¬ k < 0 by omega, if_false, IntKind.bits, hs]
@[go_sem ↓] theorem op_shl8_lit (yk : IntKind) (k : Int) (h : 0 ≤ k) (hn : n < 256) : Op.shift .shl .u8 (no_index (OfNat.ofNat n)) yk k = pure (.int .u8 (N8 (BitVec.ofNat 8 n <<< k.toNat))) := by
  rw [← op_shl8 (BitVec.ofNat 8 n) yk k h, N8_ofNat n hn]; rfl
theorem N8_div (k : Nat) : (N8 x).fdiv (2 ^ (min k 8)) = N8 (x >>> k) := by
  have hp : (2 : Int) ^ (min k 8) = ((2 ^ (min k 8) : Nat) : Int) := by rw [Int.natCast_pow]; rfl
  rw [hp, Int.fdiv_eq_ediv_of_nonneg _ (Int.natCast_nonneg _)]
  unfold N8
  rw [BitVec.toNat_ushiftRight, Nat.shiftRight_eq_div_pow, ← Int.natCast_ediv]
  congr 1
  rcases Nat.le_total k 8 with h | h
  · rw [Nat.min_eq_left h]
  · rw [Nat.min_eq_right h, Nat.div_eq_of_lt x.isLt]
    exact (Nat.div_eq_of_lt (Nat.lt_of_lt_of_le x.isLt (Nat.pow_le_pow_right (by omega) h))).symm
@[go_sem ↓] theorem op_shr8 (yk : IntKind) (k : Int) (h : 0 ≤ k) : Op.shift .shr .u8 (N8 x) yk k = pure (.int .u8 (N8 (x >>> k.toNat))) := by
  have hs := N8_div x k.toNat
  simp only [Op.shift, show ¬ k < 0 by omega, if_false, IntKind.bits, hs]
@[go_sem ↓] theorem op_rem8 (hn : n < 256) (h0 : n ≠ 0) : Op.intDiv .rem .u8 (N8 x) (no_index (OfNat.ofNat n)) = pure (.int .u8 (N8 (x % BitVec.ofNat 8 n))) := by
  have e1 : ¬ (OfNat.ofNat n : Int) = 0 := by show ¬ (n : Int) = 0; omega
  have e2 : (N8 x).tmod (OfNat.ofNat n : Int) = N8 (x % BitVec.ofNat 8 n) := by
    show (N8 x).tmod (n : Int) = _
    unfold N8
    rw [BitVec.toNat_umod, BitVec.toNat_ofNat, Nat.mod_eq_of_lt hn, ← Int.ofNat_tmod]
  simp only [Op.intDiv, e1, if_false, e2]
end
end Hk

namespace Hk
set_option linter.unusedVariables false
set_option linter.unusedSimpArgs false
open Go Go.RowKit
/-- a block's cells -/
def blk (w : World) (b : Nat) : Array Value := match w.heap[b]? with | some (.cells c _ _) => c | _ => #[]
/-- the same, kept from the rules of simp -/
def rawB (w : World) (b : Nat) : Array Value := blk w b
def rawRun (P : Program) {α : Type} (s : Sem α) (w : World) : Result α := s.run P w
def rawE (c : Array Value) (o n : Nat) : Array Value := c.extract o (o + n)
def rawG (c : Array Value) (k : Nat) : Option Value := c[k]?
theorem blk_cell (w : World) (b i : Nat) : w.cell? ⟨b, i, none⟩ = (blk w b)[i]? := by
  unfold World.cell? blk
  simp only
  split <;> simp_all
theorem blk_lt {w : World} {b : Nat} (h : (blk w b).size ≠ 0) : b < w.heap.size := by
  apply Classical.byContradiction
  intro hn
  have e : w.heap[b]? = none := by simp; omega
  apply h
  unfold blk
  rw [e]; rfl
theorem blk_some {w : World} {b : Nat} (h : (blk w b).size ≠ 0) : ∃ t fr, w.heap[b]? = some (.cells (blk w b) t fr) := by
  unfold blk at h ⊢
  split at h
  · rename_i c t fr e
    exact ⟨t, fr, by rw [e]⟩
  · exact absurd rfl h
theorem blk_of {w : World} {b : Nat} {c : Array Value} {t : TypeId} {fr : Nat × Nat} (h : w.heap[b]? = some (.cells c t fr)) : blk w b = c := by
  unfold blk; rw [h]
@[go_sem] theorem blk_alloc (w : World) (c : Array Value) (t : TypeId) (n : Nat) : blk (w.alloc (.cells c t)) n = if n < w.heap.size then blk w n else if n = w.heap.size then c else rawB (w.alloc (.cells c t)) n := by
  split
  · rename_i h
    unfold blk
    have e : (w.alloc (.cells c t)).heap[n]? = w.heap[n]? := by
      show (w.heap.push (.cells c t))[n]? = w.heap[n]?
      rw [Array.getElem?_push, if_neg (Nat.ne_of_lt h)]
    rw [e]
  · split
    · rename_i h1 h2; subst h2; exact blk_of (heap_alloc_new w _)
    · rfl
@[go_sem] theorem blk_drew (w : World) (n : Nat) : blk w.drew n = blk w n := rfl
theorem frozen_drewB (w : World) (a : Addr) : w.drew.frozen? a = w.frozen? a := rfl
@[go_sem] theorem blk_setCell (w : World) (b i : Nat) (v : Value) (n : Nat) : blk (w.setCell ⟨b, i, none⟩ v) n = if n = b then (blk w b).setIfInBounds i v else blk w n := by
  by_cases h : n = b
  · subst h
    rw [if_pos rfl]
    unfold blk World.setCell
    simp only [Array.getElem?_modify, if_true]
    cases w.heap[n]? with
    | none => simp
    | some o => cases o <;> simp
  · rw [if_neg h]
    unfold blk
    rw [heap_setCell_other w _ n v h]
@[go_sem] theorem blk_setRow (w : World) (b : Nat) (c : Array Value) (n : Nat) : blk (w.setRow b c) n = if n = b then (if (blk w b).size = 0 then rawB (w.setRow b c) n else c) else blk w n := by
  by_cases h : n = b
  · subst h
    rw [if_pos rfl]
    split
    · rfl
    · rename_i h0
      obtain ⟨t, fr, e⟩ := blk_some h0
      exact blk_of (setRow_heap w n _ c t fr e)
  · rw [if_neg h]
    unfold blk
    rw [setRow_other w b n c h]
@[go_sem] theorem cell_setRow_if (w : World) (b : Nat) (c : Array Value) (n i : Nat) : (w.setRow b c).cell? ⟨n, i, none⟩ = if n = b then (if (blk w b).size = 0 then raw (w.setRow b c) n i else c[i]?) else w.cell? ⟨n, i, none⟩ := by
  by_cases h : n = b
  · rw [if_pos h]
    subst h
    split
    · rfl
    · rename_i h0
      rw [blk_cell, blk_setRow, if_pos rfl, if_neg h0]
  · rw [if_neg h, cell_setRow_other w b c _ h]
@[go_sem] theorem frozen_setRow (w : World) (b : Nat) (c : Array Value) (a : Addr) : (w.setRow b c).frozen? a = w.frozen? a := by
  unfold World.frozen? World.setRow
  simp only [Array.getElem?_modify]
  by_cases h : b = a.block
  · rw [if_pos h]
    cases w.heap[a.block]? with
    | none => rfl
    | some o => cases o <;> rfl
  · rw [if_neg h]
/-- old blocks behind a call -/
theorem bblk {W w1 : World} (hb : Below W.heap.size W w1) : ∀ b, blk w1 b = if b < W.heap.size then blk W b else rawB w1 b := fun b => by
  split
  · rename_i h; unfold blk; rw [hb.block b h]
  · rfl
theorem blk_keep {w w1 : World} {b : Nat} {c : Array Value} (hb : Below w.heap.size w w1) (h : blk w b = c) (hc : c.size ≠ 0) : blk w1 b = c := by
  have hlt : b < w.heap.size := blk_lt (by rw [h]; exact hc)
  rw [bblk hb, if_pos hlt, h]
theorem below_setRow {B b : Nat} {a w : World} {c : Array Value} (h : Below B a w) (hb : B ≤ b) : Below B a (w.setRow b c) :=
  h.trans ⟨rfl, rfl, rfl, by simp, fun k hk => setRow_other w b k c (by omega)⟩
section
variable {P : Program}
theorem run_loadVar_blk (w : World) (ty : TypeId) (b off n : Nat) (hagg : (isAgg ty).run P w = .ok true w) (hn : (Go.sizeOf ty).run P w = .ok n w) (h : off + n ≤ (blk w b).size) :
    (loadVar ty ⟨b, off, none⟩).run P w = .ok (.agg ((blk w b).extract off (off + n))) w := by
  have hl := run_loadCells (P := P) w ⟨b, off, none⟩ n (fun j => (blk w b).getD (off + j) undef) (fun j hj => by
    have hadd : (⟨b, off, none⟩ : Addr).add j = ⟨b, off + j, none⟩ := by unfold Addr.add; split <;> simp_all
    rw [hadd, blk_cell, Array.getD_eq_getD_getElem?, Array.getElem?_eq_getElem (by omega)]
    rfl)
  simp only [loadVar, Sem.run_bind, hagg, hn, hl, Result.andThen, if_true, Sem.run_pure]
  congr 2
  apply Array.ext_getElem?
  intro i
  rw [List.getElem?_toArray, List.getElem?_map, Array.getElem?_extract]
  by_cases hi : i < n
  · rw [List.getElem?_range hi, if_pos (by omega), Option.map_some, Array.getD_eq_getD_getElem?, Array.getElem?_eq_getElem (show off + i < (blk w b).size by omega)]
    rfl
  · rw [if_neg (by omega), List.getElem?_eq_none (by simpa using hi)]
    rfl
theorem run_storeCells_blk (b off : Nat) : ∀ (vs : List Value) (i : Nat) (w : World), (∀ v ∈ vs, v.oneCell' = true) → off + i + vs.length ≤ (blk w b).size → (∀ k, w.frozen? ⟨b, k, none⟩ = false) →
    (storeCells ⟨b, off, none⟩ vs i).run P w = .ok () (w.setRow b (rowOf (blk w b).size fun k => if off + i ≤ k ∧ k < off + i + vs.length then vs.getD (k - (off + i)) undef else (blk w b).getD k undef))
  | [], i, w, _, hl, _ => by
    simp only [storeCells]
    show Result.ok () w = _
    have e : (rowOf (blk w b).size fun k => if off + i ≤ k ∧ k < off + i + ([] : List Value).length then ([] : List Value).getD (k - (off + i)) undef else (blk w b).getD k undef) = blk w b := by
      apply Array.ext_getElem?
      intro k
      rw [rowOf_get]
      by_cases hk : k < (blk w b).size
      · rw [if_pos hk, if_neg (by rintro ⟨h1, h2⟩; simp only [List.length_nil] at h2; omega), Array.getD_eq_getD_getElem?, Array.getElem?_eq_getElem hk]; rfl
      · rw [if_neg hk, Array.getElem?_eq_none (by omega)]
    rw [e]
    congr 1
    unfold World.setRow
    cases w with
    | mk heap tape drawn os output =>
      congr 1
      apply Array.ext_getElem?
      intro k
      rw [Array.getElem?_modify]
      split
      · rename_i hk
        subst hk
        unfold blk
        cases heap[b]? with
        | none => rfl
        | some o => cases o <;> rfl
      · rfl
  | v :: rest, i, w, h1, hl, hfz => by
    simp only [List.length_cons] at hl
    have hadd : (⟨b, off, none⟩ : Addr).add i = ⟨b, off + i, none⟩ := by unfold Addr.add; split <;> simp_all
    have hcell : w.cell? ⟨b, off + i, none⟩ = some ((blk w b)[off + i]'(by omega)) := by rw [blk_cell, Array.getElem?_eq_getElem (by omega)]
    have hst : (store ((⟨b, off, none⟩ : Addr).add i) v).run P w = .ok () (w.setCell ⟨b, off + i, none⟩ v) := by
      rw [hadd, run_store P w _ v _ (h1 v (by simp)), hcell]
      simp [hfz]
    have eB : blk (w.setCell ⟨b, off + i, none⟩ v) b = (blk w b).setIfInBounds (off + i) v := by rw [blk_setCell, if_pos rfl]
    have ih := run_storeCells_blk b off rest (i + 1) (w.setCell ⟨b, off + i, none⟩ v) (fun x hx => h1 x (by simp [hx])) (by rw [eB, Array.size_setIfInBounds]; omega) (fun k => by rw [World.frozen?_setCell]; exact hfz k)
    simp only [storeCells, Sem.run_bind, hst, Result.andThen_ok, ih]
    congr 1
    obtain ⟨t, fr, e⟩ := blk_some (w := w) (b := b) (by omega)
    rw [setCell_eq_setRow w b (off + i) (blk w b) t fr v e, setRow_setRow]
    congr 1
    have eB2 : blk (w.setRow b ((blk w b).setIfInBounds (off + i) v)) b = (blk w b).setIfInBounds (off + i) v := by rw [blk_setRow, if_pos rfl, if_neg (by omega)]
    rw [eB2, Array.size_setIfInBounds]
    refine rowOf_congr fun k hk => ?_
    by_cases h2 : k = off + i
    · subst h2
      rw [if_neg (by omega), if_pos (by simp only [List.length_cons]; omega)]
      simp [hk]
    · by_cases h3 : off + (i + 1) ≤ k ∧ k < off + (i + 1) + rest.length
      · rw [if_pos h3, if_pos (by simp only [List.length_cons]; omega), show k - (off + i) = (k - (off + (i + 1))) + 1 by omega]
        rfl
      · rw [if_neg h3, if_neg (by simp only [List.length_cons]; omega)]
        simp only [Array.getD_eq_getD_getElem?]
        rw [Array.getElem?_setIfInBounds, if_neg (fun e => h2 e.symm)]
theorem run_storeVar_blk (w : World) (ty : TypeId) (b off n : Nat) (c : Array Value) (hn : (Go.sizeOf ty).run P w = .ok n w) (hc : c.size = n) (h1 : c.all (·.oneCell') = true) (h : off + n ≤ (blk w b).size) (hf : ∀ k, w.frozen? ⟨b, k, none⟩ = false) :
    (storeVar ty ⟨b, off, none⟩ (.agg c)).run P w = .ok () (w.setRow b (putAt (blk w b) off c)) := by
  have hs := run_storeCells_blk (P := P) b off c.toList 0 w (fun v hv => (Array.all_eq_true_iff_forall_mem.1 h1) v (by simpa using hv)) (by simp; omega) hf
  have e : (rowOf (blk w b).size fun k => if off + 0 ≤ k ∧ k < off + 0 + c.toList.length then c.toList.getD (k - (off + 0)) undef else (blk w b).getD k undef) = putAt (blk w b) off c := by
    unfold putAt
    refine rowOf_congr fun k _ => ?_
    simp only [Nat.add_zero, Array.length_toList]
    split
    · simp [List.getD, Array.getD_eq_getD_getElem?]
    · rfl
  rw [e] at hs
  simp only [storeVar, Sem.run_bind, hn, Result.andThen, Value.cells, hc, ne_eq, not_true, if_false, hs]
end
namespace St
theorem cell_one (x : St) (k : Nat) (h : k < 589) : (x.cell k).oneCell' = true := by
  unfold cell
  split
  · have : k % 7 < 7 := Nat.mod_lt _ (by decide)
    generalize k % 7 = j at this
    match j, this with
    | 0, _ | 1, _ | 2, _ | 3, _ | 4, _ | 5, _ | 6, _ => rfl
  · have : (k - 77) % 8 < 8 := Nat.mod_lt _ (by decide)
    generalize (k - 77) % 8 = j at this
    match j, this with
    | 0, _ | 1, _ | 2, _ | 3, _ | 4, _ | 5, _ | 6, _ | 7, _ => rfl
theorem cells_one (x : St) : x.cells.all (·.oneCell') = true := by
  rw [Array.all_eq_true_iff_forall_mem]
  intro v hv
  obtain ⟨k, hk, rfl⟩ := Array.getElem_of_mem hv
  have h2 := cells_size x
  have h3 : x.cells[k]? = some (x.cell k) := by unfold cells; rw [rowOf_get, if_pos (by omega)]
  rw [Array.getElem?_eq_getElem hk] at h3
  rw [Option.some.inj h3]
  exact cell_one x k (by omega)
end St
end Hk

namespace Hk
set_option linter.unusedVariables false
def Sl.ok (x : Sl) : Bool := Vl.right x.v && (decide (x.v.k = 0) || (x.p == 255#8))
namespace St
def zero : St := ⟨fun _ => Vl.zero, fun _ => ⟨Vl.zero, 0#8⟩⟩
def first : St := (zero.setR 1 ⟨2, Fa.zero, 0, 0⟩).setR 10 ⟨3, Fa.zero, 0, 512⟩
def upR (x : St) (k : Nat) : Bool := (List.range k).all fun i => Vl.right (x.r i)
def upS (x : St) (k : Nat) : Bool := (List.range k).all fun i => Sl.ok (x.s i)
def right (x : St) : Bool := x.upR 11 && x.upS 64
theorem all_succ (f : Nat → Bool) (k : Nat) : (List.range (k + 1)).all f = ((List.range k).all f && f k) := by
  rw [List.range_succ, List.all_append]; simp
theorem all_false {f : Nat → Bool} {k n : Nat} (h : f k = false) (hk : k < n) : (List.range n).all f = false := by
  cases e : (List.range n).all f
  · rfl
  · rw [List.all_eq_true] at e
    have := e k (by simpa using hk)
    rw [h] at this; cases this
theorem all_iff {f : Nat → Bool} {n : Nat} : (List.range n).all f = true ↔ ∀ k, k < n → f k = true := by
  rw [List.all_eq_true]
  constructor
  · intro h k hk; exact h k (by simpa using hk)
  · intro h k hk; exact h k (by simpa using hk)
theorem upR_zero (x : St) : x.upR 0 = true := rfl
theorem upS_zero (x : St) : x.upS 0 = true := rfl
theorem upR_succ {x : St} {k : Nat} (h : x.upR k = true) (h2 : Vl.right (x.r k) = true) : x.upR (k + 1) = true := by
  unfold upR at h ⊢; rw [all_succ, h, h2]; rfl
theorem upS_succ {x : St} {k : Nat} (h : x.upS k = true) (h2 : Sl.ok (x.s k) = true) : x.upS (k + 1) = true := by
  unfold upS at h ⊢; rw [all_succ, h, h2]; rfl
theorem right_noR {x : St} {k : Nat} (hk : k < 11) (h : Vl.right (x.r k) = false) : x.right = false := by
  unfold right upR; rw [all_false h hk]; rfl
theorem right_noS {x : St} {k : Nat} (hk : k < 64) (h : Sl.ok (x.s k) = false) : x.right = false := by
  unfold right upS; rw [all_false h hk]; simp
theorem right_yes {x : St} (h : x.upR 11 = true) (h2 : x.upS 64 = true) : x.right = true := by unfold right; rw [h, h2]; rfl
theorem right_r {x : St} (h : x.right = true) {k : Nat} (hk : k < 11) : Vl.right (x.r k) = true := by
  unfold right at h; rw [Bool.and_eq_true] at h; exact all_iff.1 h.1 k hk
theorem right_s {x : St} (h : x.right = true) {k : Nat} (hk : k < 64) : Sl.ok (x.s k) = true := by
  unfold right at h; rw [Bool.and_eq_true] at h; exact all_iff.1 h.2 k hk
def sized (n : Int) : Bool := decide (n = 1) || decide (n = 2) || decide (n = 4) || decide (n = 8)
def fitsE (o n : Int) : Int := if o < 0 ∨ 512 - n < o then 80 else if o % n = 0 then 0 else 130
def bits (o n : Int) : BitVec 8 := ((1#8 <<< n.toNat) - 1#8) <<< (o % 8).toNat
def setOk (x : St) (i : Int) (v : Vl) : Bool := !decide (i < 0) && !decide (10 < i) && Vl.right v && x.right
def set (x : St) (i : Int) (v : Vl) : St := if x.setOk i v then x.setR i.toNat v else zero
def putArg (x : St) (n : Int) (v : Vl) : Bool := sized n && Vl.right v && !decide (v.k = 0) && !(decide (n < 8) && !decide (v.k = 1)) && x.right
def putE (x : St) (o n : Int) (v : Vl) : Int := if x.putArg n v then fitsE o n else 1
/-- what stands in a slot behind something that was put there -/
def put1 (x : St) (o n : Int) (v : Vl) : St := (x.setP (o.toNat / 8) ((x.s (o.toNat / 8)).p ||| bits o n)).setV (o.toNat / 8) (if n = 8 then v else Vl.zero)
def put (x : St) (o n : Int) (v : Vl) : St := if x.putE o n v = 0 then x.put1 o n v else zero
theorem setOk_r {x : St} {i : Int} {v : Vl} (h : x.setOk i v = true) : 0 ≤ i ∧ i ≤ 10 ∧ Vl.right v = true ∧ x.right = true := by
  unfold setOk at h
  simp only [Bool.and_eq_true, Bool.not_eq_true', decide_eq_false_iff_not] at h
  exact ⟨by omega, by omega, h.1.2, h.2⟩
theorem fits_in {o n : Int} (h : fitsE o n = 0) (hn : 0 < n) : 0 ≤ o ∧ o ≤ 512 - n ∧ o % n = 0 := by
  unfold fitsE at h
  split at h
  · cases h
  · split at h
    · exact ⟨by omega, by omega, by assumption⟩
    · cases h
theorem setV_setV (x : St) (i : Nat) (a b : Vl) : (x.setV i a).setV i b = x.setV i b := by
  unfold setV
  congr 1
  funext k
  by_cases h : k = i
  · simp [h]
  · simp [h]
theorem setV_s (x : St) (i : Nat) (v : Vl) : (x.setV i v).s i = ⟨v, (x.s i).p⟩ := by unfold setV; simp
theorem setP_s (x : St) (i : Nat) (p : BitVec 8) : (x.setP i p).s i = ⟨(x.s i).v, p⟩ := by unfold setP; simp
theorem setP_setP (x : St) (i : Nat) (a b : BitVec 8) : (x.setP i a).setP i b = x.setP i b := by
  unfold setP
  congr 1
  funext k
  by_cases h : k = i
  · simp [h]
  · simp [h]
theorem setP_setV (x : St) (i : Nat) (a : Vl) (b : BitVec 8) : (x.setV i a).setP i b = (x.setP i b).setV i a := by
  unfold setP setV
  congr 1
  funext k
  by_cases h : k = i
  · simp [h]
  · simp [h]
theorem sized_is {n : Int} (h : sized n = true) : n = 1 ∨ n = 2 ∨ n = 4 ∨ n = 8 := by
  unfold sized at h
  simp only [Bool.or_eq_true, decide_eq_true_eq] at h
  omega
theorem fits_3 (o n : Int) : fitsE o n = 0 ∨ fitsE o n = 80 ∨ fitsE o n = 130 := by
  unfold fitsE; split
  · exact .inr (.inl rfl)
  · split
    · exact .inl rfl
    · exact .inr (.inr rfl)
theorem fits_j {o n : Int} (h : fitsE o n = 0) (hn : 0 < n) : ∃ j : Nat, o / 8 = (j : Int) ∧ j < 64 ∧ 0 ≤ o ∧ o ≤ 512 := by
  obtain ⟨h0, h1, _⟩ := fits_in h hn
  exact ⟨(o / 8).toNat, by omega, by omega, h0, by omega⟩
theorem putE_ok {s : St} {o n : Int} {v : Vl} (h : s.putArg n v = true) : s.putE o n v = fitsE o n := by unfold putE; rw [if_pos h]
theorem put_ok {s : St} {o n : Int} {v : Vl} {j : Nat} (h : s.putArg n v = true) (hf : fitsE o n = 0) (hq : o / 8 = (j : Int)) : s.put o n v = (s.setP j ((s.s j).p ||| bits o n)).setV j (if n = 8 then v else Vl.zero) := by
  unfold put
  rw [putE_ok h, if_pos hf]
  unfold put1
  have e : o.toNat / 8 = j := by omega
  rw [e]
theorem put_no {s : St} {o n : Int} {v : Vl} (h : s.putArg n v = true) (hf : ¬ fitsE o n = 0) : s.put o n v = zero := by
  unfold put
  rw [putE_ok h, if_neg hf]
/-- was something put to a byte? -/
def bset (x : St) (o : Nat) : Bool := (x.s (o / 8)).p.getLsbD (o % 8)
def upB (x : St) (o n : Nat) : Bool := (List.range n).all fun i => x.bset (o + i)
def fullArg (o n : Int) : Bool := !decide (o < 0) && !decide (n < 0) && !decide (512 < n) && !decide (512 - n < o)
def full (x : St) (o n : Int) : Bool := fullArg o n && x.right && x.upB o.toNat n.toNat
theorem upB_zero (x : St) (o : Nat) : x.upB o 0 = true := rfl
theorem upB_succ {x : St} {o k : Nat} (h : x.upB o k = true) (h2 : x.bset (o + k) = true) : x.upB o (k + 1) = true := by
  unfold upB at h ⊢; rw [all_succ, h, h2]; rfl
theorem upB_no {x : St} {o k n : Nat} (hk : k < n) (h : x.bset (o + k) = false) : x.upB o n = false := by
  unfold upB; exact all_false h hk
theorem upB_iff {x : St} {o n : Nat} : x.upB o n = true ↔ ∀ k, k < n → x.bset (o + k) = true := all_iff
/-- bits of a byte: all of a run are set just if the run's mask is -/
theorem mask_all : ∀ (p : BitVec 8) (r n : Nat), r < 8 → n ≤ 8 → r + n ≤ 8 → ((p &&& (((1#8 <<< n) - 1#8) <<< r)) = ((1#8 <<< n) - 1#8) <<< r ↔ ∀ i, i < n → p.getLsbD (r + i) = true) := by
  intro p r n hr hn hrn
  have key : ∀ (q : BitVec 8), ∀ r' : Fin 8, ∀ n' : Fin 9, r'.val + n'.val ≤ 8 → (decide ((q &&& (((1#8 <<< n'.val) - 1#8) <<< r'.val)) = ((1#8 <<< n'.val) - 1#8) <<< r'.val) = (List.range n'.val).all fun i => q.getLsbD (r'.val + i)) := by decide +kernel
  have h := key p ⟨r, hr⟩ ⟨n, by omega⟩ hrn
  simp only at h
  rw [← all_iff (f := fun i => p.getLsbD (r + i)), ← h, decide_eq_true_eq]
theorem upB_add {x : St} {o k m : Nat} (h : x.upB o k = true) (h2 : ∀ i, i < m → x.bset (o + k + i) = true) : x.upB o (k + m) = true := by
  rw [upB_iff] at h ⊢
  intro i hi
  rcases Nat.lt_or_ge i k with h3 | h3
  · exact h i h3
  · have := h2 (i - k) (by omega)
    rwa [show o + k + (i - k) = o + i by omega] at this
theorem bits_nat (a m : Nat) : bits (a : Int) (m : Int) = ((1#8 <<< m) - 1#8) <<< (a % 8) := by
  unfold bits
  rw [Int.toNat_natCast, show ((a : Int) % 8).toNat = a % 8 by omega]
/-- a run of a slot's bits -/
theorem run_set {x : St} {a m : Nat} (hm : a % 8 + m ≤ 8) : (((x.s (a / 8)).p &&& bits (a : Int) (m : Int)) == bits (a : Int) (m : Int)) = true ↔ ∀ i, i < m → x.bset (a + i) = true := by
  rw [bits_nat, beq_iff_eq, mask_all _ _ _ (Nat.mod_lt _ (by decide)) (by omega) hm]
  constructor
  · intro h i hi
    unfold bset
    rw [show (a + i) / 8 = a / 8 by omega, show (a + i) % 8 = a % 8 + i by omega]
    exact h i hi
  · intro h i hi
    have := h i hi
    unfold bset at this
    rwa [show (a + i) / 8 = a / 8 by omega, show (a + i) % 8 = a % 8 + i by omega] at this
theorem run_not {x : St} {a m : Nat} (hm : a % 8 + m ≤ 8) (h : (((x.s (a / 8)).p &&& bits (a : Int) (m : Int)) == bits (a : Int) (m : Int)) = false) : ∃ i, i < m ∧ x.bset (a + i) = false := by
  apply Classical.byContradiction
  intro hn
  have : ∀ i, i < m → x.bset (a + i) = true := fun i hi => by
    cases e : x.bset (a + i)
    · exact absurd ⟨i, hi, e⟩ hn
    · rfl
  rw [(run_set hm).2 this] at h
  cases h
theorem full_no {x : St} {o n k : Nat} (hk : k < n) (h : x.bset (o + k) = false) : x.full (o : Int) (n : Int) = false := by
  unfold full
  rw [Int.toNat_natCast, Int.toNat_natCast, upB_no hk h, Bool.and_false]
theorem full_yes {x : St} {o n : Nat} (ho : o + n ≤ 512) (hr : x.right = true) (h : x.upB o n = true) : x.full (o : Int) (n : Int) = true := by
  unfold full fullArg
  rw [Int.toNat_natCast, Int.toNat_natCast, h, hr]
  simp
  omega
theorem bset_sh : ∀ (p : BitVec 8) (r : Nat), r < 8 → ((p >>> r) % 2#8 == 1#8) = p.getLsbD r := by
  intro p r hr
  have key : ∀ q : BitVec 8, ∀ r' : Fin 8, ((q >>> r'.val) % 2#8 == 1#8) = q.getLsbD r'.val := by decide +kernel
  exact key p ⟨r, hr⟩
def hi (n : Int) : BitVec 64 := if n = 1 then 255#64 else if n = 2 then 65535#64 else if n = 4 then 4294967295#64 else 18446744073709551615#64
def below (n : Int) : Vl := Vl.num ((Fa.settle ⟨⟨0#64, 18446744073709551615#64⟩, ⟨0#64, hi n⟩⟩).getD Fa.zero)
def getE (x : St) (o n : Int) : Int := if (sized n && x.right) = true then (if fitsE o n = 0 then (if x.full o n = true then 0 else 81) else fitsE o n) else 1
def get (x : St) (o n : Int) : Vl := if x.getE o n = 0 then (if n = 8 ∧ ¬ (x.s (o.toNat / 8)).v.k = 0 then (x.s (o.toNat / 8)).v else below n) else Vl.zero
/-- where so many bytes may be told, they are in one slot -/
theorem full_slot {x : St} {o n : Int} {j : Nat} (hn : sized n = true) (hr : x.right = true) (hf : fitsE o n = 0) (hq : o / 8 = (j : Int)) : x.full o n = (((x.s j).p &&& bits o n) == bits o n) := by
  have hp : 0 < n := by have := sized_is hn; omega
  obtain ⟨h0, h1, h2⟩ := fits_in hf hp
  obtain ⟨a, rfl⟩ := Int.eq_ofNat_of_zero_le h0
  obtain ⟨m, rfl⟩ := Int.eq_ofNat_of_zero_le (show 0 ≤ n by omega)
  have hj : a / 8 = j := by omega
  subst hj
  have hm : a % 8 + m ≤ 8 := by
    rcases sized_is hn with e | e | e | e <;> rw [e] at h2 <;> omega
  cases e : (((x.s (a / 8)).p &&& bits (a : Int) (m : Int)) == bits (a : Int) (m : Int))
  · obtain ⟨i, hi, h3⟩ := run_not hm e
    exact full_no hi h3
  · exact full_yes (by omega) hr (upB_iff.2 ((run_set hm).1 e))
def slotIn (x y : Sl) : Bool := if y.v.k = 0 then (y.p &&& ~~~x.p == 0#8) else (!decide (x.v.k = 0) && Vl.within x.v y.v)
def inR (x y : St) (k : Nat) : Bool := (List.range k).all fun i => Vl.within (x.r i) (y.r i)
def inS (x y : St) (k : Nat) : Bool := (List.range k).all fun i => slotIn (x.s i) (y.s i)
def within (x y : St) : Bool := x.right && y.right && x.inR y 11 && x.inS y 64
theorem inR_zero (x y : St) : x.inR y 0 = true := rfl
theorem inS_zero (x y : St) : x.inS y 0 = true := rfl
theorem inR_succ {x y : St} {k : Nat} (h : x.inR y k = true) (h2 : Vl.within (x.r k) (y.r k) = true) : x.inR y (k + 1) = true := by
  unfold inR at h ⊢; rw [all_succ, h, h2]; rfl
theorem inS_succ {x y : St} {k : Nat} (h : x.inS y k = true) (h2 : slotIn (x.s k) (y.s k) = true) : x.inS y (k + 1) = true := by
  unfold inS at h ⊢; rw [all_succ, h, h2]; rfl
theorem within_noR {x y : St} {k : Nat} (hk : k < 11) (h : Vl.within (x.r k) (y.r k) = false) : x.within y = false := by
  unfold within inR; rw [all_false h hk]; simp
theorem within_noS {x y : St} {k : Nat} (hk : k < 64) (h : slotIn (x.s k) (y.s k) = false) : x.within y = false := by
  unfold within inS; rw [all_false h hk]; simp
end St
end Hk

namespace Hk
namespace St
theorem get_arg {s : St} {o n : Int} (h : (sized n && s.right) = false) : s.getE o n = 1 ∧ s.get o n = Vl.zero := by
  have e : s.getE o n = 1 := by unfold getE; rw [h]; rfl
  exact ⟨e, by unfold get; rw [e]; rfl⟩
theorem get_fit {s : St} {o n : Int} (hn : sized n = true) (hs : s.right = true) (hf : ¬ fitsE o n = 0) : s.getE o n = fitsE o n ∧ s.get o n = Vl.zero := by
  have e : s.getE o n = fitsE o n := by unfold getE; rw [hn, hs, if_pos (by rfl), if_neg hf]
  exact ⟨e, by unfold get; rw [e, if_neg hf]⟩
theorem get_blank {s : St} {o n : Int} (hn : sized n = true) (hs : s.right = true) (hf : fitsE o n = 0) (hb : s.full o n = false) : s.getE o n = 81 ∧ s.get o n = Vl.zero := by
  have e : s.getE o n = 81 := by unfold getE; rw [hn, hs, if_pos (by rfl), if_pos hf, hb]; rfl
  exact ⟨e, by unfold get; rw [e]; rfl⟩
theorem get_ok {s : St} {o n : Int} {j : Nat} (hn : sized n = true) (hs : s.right = true) (hf : fitsE o n = 0) (hb : s.full o n = true) (hq : o / 8 = (j : Int)) :
    s.getE o n = 0 ∧ s.get o n = if n = 8 ∧ ¬ (s.s j).v.k = 0 then (s.s j).v else below n := by
  have e : s.getE o n = 0 := by unfold getE; rw [hn, hs, if_pos (by rfl), if_pos hf, if_pos hb]
  have e2 : o.toNat / 8 = j := by omega
  exact ⟨e, by unfold get; rw [e, if_pos rfl, e2]⟩
end St
end Hk

namespace Hk
set_option linter.unusedVariables false
namespace St
/-- the state behind the first k bytes of what is put, bit by bit -/
def putB (s : St) (j o k : Nat) : St := (s.setV j Vl.zero).setP j ((s.s j).p ||| bits (o : Int) (k : Int))
theorem bits_zero (o : Nat) : bits (o : Int) ((0 : Nat) : Int) = 0#8 := by rw [bits_nat]; rw [BitVec.shiftLeft_zero]; simp
theorem step_bit : ∀ (p : BitVec 8) (r k : Nat), r + k < 8 →
    ((p ||| (((1#8 <<< k) - 1#8) <<< r)).getLsbD (r + k) = true → p ||| (((1#8 <<< (k + 1)) - 1#8) <<< r) = p ||| (((1#8 <<< k) - 1#8) <<< r)) ∧
    ((p ||| (((1#8 <<< k) - 1#8) <<< r)).getLsbD (r + k) = false → p ||| (((1#8 <<< (k + 1)) - 1#8) <<< r) = (p ||| (((1#8 <<< k) - 1#8) <<< r)) + (1#8 <<< (r + k))) := by
  intro p r k h
  have key : ∀ q : BitVec 8, ∀ r' k' : Fin 8, r'.val + k'.val < 8 →
    (if (q ||| (((1#8 <<< k'.val) - 1#8) <<< r'.val)).getLsbD (r'.val + k'.val) then q ||| (((1#8 <<< (k'.val + 1)) - 1#8) <<< r'.val) == q ||| (((1#8 <<< k'.val) - 1#8) <<< r'.val)
     else q ||| (((1#8 <<< (k'.val + 1)) - 1#8) <<< r'.val) == (q ||| (((1#8 <<< k'.val) - 1#8) <<< r'.val)) + (1#8 <<< (r'.val + k'.val))) = true := by decide +kernel
  have h2 := key p ⟨r, by omega⟩ ⟨k, by omega⟩ h
  simp only at h2
  constructor
  · intro e; rw [e, if_pos rfl] at h2; exact beq_iff_eq.1 h2
  · intro e; rw [e, if_neg (by decide)] at h2; exact beq_iff_eq.1 h2
theorem putB_s (s : St) (j o k : Nat) : (s.putB j o k).s j = ⟨Vl.zero, (s.s j).p ||| bits (o : Int) (k : Int)⟩ := by unfold putB; rw [setP_s, setV_s]
theorem putB_yes {s : St} {j o k : Nat} (hj : o / 8 = j) (h : o % 8 + k < 8) (hb : (s.putB j o k).bset (o + k) = true) : s.putB j o (k + 1) = s.putB j o k := by
  unfold bset at hb
  rw [show (o + k) / 8 = j by omega, putB_s, show (o + k) % 8 = o % 8 + k by omega, bits_nat] at hb
  have := (step_bit (s.s j).p (o % 8) k h).1 hb
  unfold putB
  rw [bits_nat, bits_nat, this]
theorem putB_no {s : St} {j o k : Nat} (hj : o / 8 = j) (h : o % 8 + k < 8) (hb : (s.putB j o k).bset (o + k) = false) : s.putB j o (k + 1) = (s.putB j o k).setP j (((s.putB j o k).s j).p + (1#8 <<< ((o + k) % 8))) := by
  unfold bset at hb
  rw [show (o + k) / 8 = j by omega, putB_s, show (o + k) % 8 = o % 8 + k by omega, bits_nat] at hb
  have := (step_bit (s.s j).p (o % 8) k h).2 hb
  rw [putB_s, show (o + k) % 8 = o % 8 + k by omega]
  unfold putB
  rw [setP_setP, bits_nat, bits_nat, this]
theorem putB_start (s : St) (j o : Nat) : s.putB j o 0 = s.setV j Vl.zero := by
  unfold putB
  rw [bits_zero, BitVec.or_zero]
  unfold setP setV
  congr 1
  funext k
  by_cases h : k = j
  · simp [h]
  · simp [h]
theorem putB_end (s : St) (j o n : Nat) : s.putB j o n = (s.setP j ((s.s j).p ||| bits (o : Int) (n : Int))).setV j Vl.zero := by
  unfold putB; rw [setP_setV]
/-- eight bytes at once -/
theorem put_eight {s : St} {o : Int} {j : Nat} {v : Vl} (h : o % 8 = 0) : (s.setP j ((s.s j).p ||| bits o 8)).setV j v = s.setS j ⟨v, 255#8⟩ := by
  have e : (s.s j).p ||| bits o 8 = 255#8 := by
    unfold bits
    rw [h]
    have key : ∀ q : BitVec 8, q ||| 255#8 = 255#8 := by decide +kernel
    exact key _
  rw [e]
  unfold setP setV setS
  congr 1
  funext k
  by_cases h : k = j
  · simp [h]
  · simp [h]
end St
end Hk

namespace Hk
open Go Go.RowKit
set_option linter.unusedVariables false
/-- something that is put -/
structure Ac where
  k : Int
  o : Int
  n : Int
  v : Vl
def Ac.cell (a : Ac) : Nat → Value
  | 0 => .int .u8 a.k
  | 1 => .int .i64 a.o
  | 2 => .int .i64 a.n
  | j + 3 => a.v.cell j
def Ac.cells (a : Ac) : Array Value := #[.int .u8 a.k, .int .i64 a.o, .int .i64 a.n, .int .u8 a.v.k, .int .u64 (N a.v.f.t.v), .int .u64 (N a.v.f.t.m), .int .u64 (N a.v.f.s.lo), .int .u64 (N a.v.f.s.hi), .int .i64 a.v.i, .int .i64 a.v.off]
def Ac.right (a : Ac) : Prop := (0 ≤ a.k ∧ a.k ≤ 255) ∧ (-9223372036854775808 ≤ a.o ∧ a.o ≤ 9223372036854775807) ∧ (-9223372036854775808 ≤ a.n ∧ a.n ≤ 9223372036854775807)
/-- so many acts stand at a place of memory -/
def Acts (w : World) (p : Option Addr) (len : Nat) (L : Nat → Ac) : Prop :=
  ∀ i, i < len → ∃ b o, p = some ⟨b, o, none⟩ ∧ (L i).right ∧ ∀ j, j < 10 → w.cell? ⟨b, o + i * 10 + j, none⟩ = some ((L i).cell j)
theorem Acts.keep {w w1 : World} {p : Option Addr} {len : Nat} {L : Nat → Ac} (hb : Below w.heap.size w w1) (h : Acts w p len L) : Acts w1 p len L := fun i hi => by
  obtain ⟨b, o, h1, h2, h3⟩ := h i hi
  exact ⟨b, o, h1, h2, fun j hj => cell_keep hb (h3 j hj)⟩
namespace St
/-- what comes of an act -/
def actE (s : St) (a : Ac) : Int := if a.k % 4 = 3 then (if s.setOk a.o a.v = true then 0 else 1) else s.putE a.o a.n a.v
def actT (s : St) (a : Ac) : St := if a.k % 4 = 3 then s.set a.o a.v else s.put a.o a.n a.v
def act (s : St) (a : Ac) : St := if s.actE a = 0 then s.actT a else s
def made (L : Nat → Ac) : Nat → St
  | 0 => first
  | k + 1 => (made L k).act (L k)
def madeN (L : Nat → Ac) (len : Nat) : St := made L (if len < 100 then len else 100)
theorem made_all {L : Nat → Ac} {k len : Nat} (h : ¬ k < len) (h1 : k ≤ len) (h2 : k ≤ 100) : made L k = madeN L len := by
  unfold madeN
  have : k = if len < 100 then len else 100 := by split <;> omega
  rw [← this]
theorem made_cut {L : Nat → Ac} {len : Nat} (h : 100 < len) : made L 100 = madeN L len := by
  unfold madeN
  rw [if_neg (by omega)]
theorem act_yes {s : St} {a : Ac} (h : s.actE a = 0) : s.act a = s.actT a := by unfold act; rw [if_pos h]
theorem act_no {s : St} {a : Ac} (h : ¬ s.actE a = 0) : s.act a = s := by unfold act; rw [if_neg h]
end St
end Hk

