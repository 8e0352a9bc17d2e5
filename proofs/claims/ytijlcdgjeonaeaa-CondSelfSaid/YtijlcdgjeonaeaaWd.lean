/- Words as the model has them: how the walk reckons with 64-bit numbers. No condition. -/
import Derived.WalkKit
import Derived.ProofKit
import Derived.Below
import Derived.Lib.Hide
import Derived.BigQuiet
import Derived.Deep.QuietTactic
import Derived.Handy
namespace Hk
open Go Go.RowKit

/-- A word as the model's number. (A plain definition: no rule of simp goes behind it.) -/
def N (x : BitVec 64) : Int := x.toNat
theorem N_nonneg (x : BitVec 64) : 0 ≤ N x := Int.natCast_nonneg _
theorem N_lt (x : BitVec 64) : N x < 18446744073709551616 := by unfold N; have := x.isLt; omega
theorem N_inj (x y : BitVec 64) : N x = N y ↔ x = y := by
  unfold N; rw [Int.natCast_inj]; exact BitVec.toNat_inj
theorem N_ofNat (n : Nat) (h : n < 18446744073709551616) : N (BitVec.ofNat 64 n) = (n : Int) := by
  unfold N; rw [BitVec.toNat_ofNat, Nat.mod_eq_of_lt h]
theorem wrap_N (i : Int) : IntKind.u64.wrap i = N (BitVec.ofInt 64 i) := by
  rw [IntKind.wrap_u64]; unfold N; rw [BitVec.toNat_ofInt]
  have : (0 : Int) ≤ i % ((2 ^ 64 : Nat) : Int) := Int.emod_nonneg _ (by decide)
  rw [Int.toNat_of_nonneg this]; rfl
theorem ofInt_N (x : BitVec 64) : BitVec.ofInt 64 (N x) = x := by
  unfold N; rw [BitVec.ofInt_natCast, BitVec.ofNat_toNat, BitVec.setWidth_eq]
theorem ofInt_toInt' (x : BitVec 64) : (N x - x.toInt) % 18446744073709551616 = 0 := by
  unfold N; rw [BitVec.toInt_eq_toNat_cond]; split <;> omega

section
variable (x y : BitVec 64) (n : Nat)
theorem wrap_add : IntKind.u64.wrap (N x + N y) = N (x + y) := by
  rw [IntKind.wrap_u64]; unfold N; rw [BitVec.toNat_add]; rfl
theorem wrap_sub : IntKind.u64.wrap (N x - N y) = N (x - y) := by
  rw [IntKind.wrap_u64]; unfold N; rw [BitVec.toNat_sub]
  have := x.isLt; have := y.isLt
  omega
theorem wrap_mul : IntKind.u64.wrap (N x * N y) = N (x * y) := by
  rw [IntKind.wrap_u64]; unfold N; rw [BitVec.toNat_mul]; rfl
@[go_sem ↓] theorem op_add : Op.intArith .add .u64 (N x) (N y) = pure (.int .u64 (N (x + y))) := by
  simp only [Op.intArith, wrap_add]
@[go_sem ↓] theorem op_sub : Op.intArith .sub .u64 (N x) (N y) = pure (.int .u64 (N (x - y))) := by
  simp only [Op.intArith, wrap_sub]
@[go_sem ↓] theorem op_mul : Op.intArith .mul .u64 (N x) (N y) = pure (.int .u64 (N (x * y))) := by
  simp only [Op.intArith, wrap_mul]
theorem wrap_toNat : IntKind.u64.wrap (x.toNat : Int) = N x := by
  rw [IntKind.wrap_u64]; unfold N; have := x.isLt; omega
@[go_sem ↓] theorem op_and : Op.intBits .and .u64 (N x) (N y) = pure (.int .u64 (N (x &&& y))) := by
  simp only [Op.intBits, IntKind.bits, ofInt_N, wrap_toNat]; rfl
@[go_sem ↓] theorem op_or : Op.intBits .or .u64 (N x) (N y) = pure (.int .u64 (N (x ||| y))) := by
  simp only [Op.intBits, IntKind.bits, ofInt_N, wrap_toNat]; rfl
@[go_sem ↓] theorem op_xor : Op.intBits .xor .u64 (N x) (N y) = pure (.int .u64 (N (x ^^^ y))) := by
  simp only [Op.intBits, IntKind.bits, ofInt_N, wrap_toNat]; rfl
@[go_sem ↓] theorem op_andNot : Op.intBits .andNot .u64 (N x) (N y) = pure (.int .u64 (N (x &&& ~~~y))) := by
  simp only [Op.intBits, IntKind.bits, ofInt_N, wrap_toNat]; rfl
@[go_sem] theorem N_beq : (N x == N y) = (x == y) := by rw [Bool.eq_iff_iff, beq_iff_eq, beq_iff_eq]; exact N_inj x y
@[go_sem] theorem N_bne : (N x != N y) = !(x == y) := by unfold bne; rw [N_beq]
@[go_sem] theorem N_lt_iff : (N x < N y) = (x < y) := by unfold N; rw [BitVec.lt_def]; apply propext; omega
@[go_sem] theorem N_le_iff : (N x ≤ N y) = (x ≤ y) := by unfold N; rw [BitVec.le_def]; apply propext; omega
theorem N_lit (h : n < 18446744073709551616) : N (BitVec.ofNat 64 n) = (OfNat.ofNat n : Int) := N_ofNat n h
@[go_sem] theorem N_beq_lit (h : n < 18446744073709551616) : (N x == (no_index (OfNat.ofNat n))) = (x == BitVec.ofNat 64 n) := by rw [← N_lit n h, N_beq]
@[go_sem] theorem N_bne_lit (h : n < 18446744073709551616) : (N x != (no_index (OfNat.ofNat n))) = !(x == BitVec.ofNat 64 n) := by rw [← N_lit n h, N_bne]
@[go_sem] theorem N_lt_lit (h : n < 18446744073709551616) : (N x < (no_index (OfNat.ofNat n))) = (x < BitVec.ofNat 64 n) := by rw [← N_lit n h, N_lt_iff]
@[go_sem] theorem N_le_lit (h : n < 18446744073709551616) : (N x ≤ (no_index (OfNat.ofNat n))) = (x ≤ BitVec.ofNat 64 n) := by rw [← N_lit n h, N_le_iff]
@[go_sem] theorem N_lit_lt (h : n < 18446744073709551616) : ((no_index (OfNat.ofNat n)) < N x) = (BitVec.ofNat 64 n < x) := by rw [← N_lit n h, N_lt_iff]
@[go_sem] theorem N_lit_le (h : n < 18446744073709551616) : ((no_index (OfNat.ofNat n)) ≤ N x) = (BitVec.ofNat 64 n ≤ x) := by rw [← N_lit n h, N_le_iff]
theorem N_div : (N x).tdiv (N y) = N (x / y) := by
  unfold N; rw [BitVec.toNat_udiv, ← Int.ofNat_tdiv]
theorem N_mod : (N x).tmod (N y) = N (x % y) := by
  unfold N; rw [BitVec.toNat_umod, ← Int.ofNat_tmod]
theorem wrap_N' : IntKind.u64.wrap (N x) = N x := by
  rw [IntKind.wrap_u64]; have := N_nonneg x; have := N_lt x; omega
theorem N_ne_zero (h : y ≠ 0#64) : ¬ N y = 0 := by
  intro e; apply h; rw [← N_inj]; rw [e]; rfl
@[go_sem ↓] theorem op_quo (h : y ≠ 0#64) : Op.intDiv .quo .u64 (N x) (N y) = pure (.int .u64 (N (x / y))) := by
  simp only [Op.intDiv, N_ne_zero y h, if_false, N_div, wrap_N']
@[go_sem ↓] theorem op_rem (h : y ≠ 0#64) : Op.intDiv .rem .u64 (N x) (N y) = pure (.int .u64 (N (x % y))) := by
  simp only [Op.intDiv, N_ne_zero y h, if_false, N_mod]
theorem N_shl (k : Nat) : IntKind.u64.wrap (N x * 2 ^ (min k 64)) = N (x <<< k) := by
  rw [IntKind.wrap_u64]; unfold N
  rw [BitVec.toNat_shiftLeft, Nat.shiftLeft_eq]
  have e : ((x.toNat : Int) * 2 ^ (min k 64)) = ((x.toNat * 2 ^ (min k 64) : Nat) : Int) := by rw [Int.natCast_mul, Int.natCast_pow]; rfl
  rw [e]
  have : x.toNat * 2 ^ (min k 64) % 2 ^ 64 = x.toNat * 2 ^ k % 2 ^ 64 := by
    rcases Nat.le_total k 64 with h | h
    · rw [Nat.min_eq_left h]
    · rw [Nat.min_eq_right h]
      obtain ⟨j, rfl⟩ := Nat.exists_eq_add_of_le h
      rw [Nat.pow_add, ← Nat.mul_assoc, Nat.mul_mod_left, Nat.mul_right_comm, Nat.mul_mod_left]
  rw [← this]; omega
theorem N_shr (k : Nat) : (N x).fdiv (2 ^ (min k 64)) = N (x >>> k) := by
  have hp : (2 : Int) ^ (min k 64) = ((2 ^ (min k 64) : Nat) : Int) := by rw [Int.natCast_pow]; rfl
  rw [hp, Int.fdiv_eq_ediv_of_nonneg _ (Int.natCast_nonneg _)]
  unfold N
  rw [BitVec.toNat_ushiftRight, Nat.shiftRight_eq_div_pow, ← Int.natCast_ediv]
  congr 1
  rcases Nat.le_total k 64 with h | h
  · rw [Nat.min_eq_left h]
  · rw [Nat.min_eq_right h, Nat.div_eq_of_lt x.isLt]
    exact (Nat.div_eq_of_lt (Nat.lt_of_lt_of_le x.isLt (Nat.pow_le_pow_right (by omega) h))).symm
@[go_sem ↓] theorem op_shl (yk : IntKind) (k : Int) (h : 0 ≤ k) : Op.shift .shl .u64 (N x) yk k = pure (.int .u64 (N (x <<< k.toNat))) := by
  simp only [Op.shift, show ¬ k < 0 by omega, if_false, IntKind.bits, N_shl]
@[go_sem ↓] theorem op_shr (yk : IntKind) (k : Int) (h : 0 ≤ k) : Op.shift .shr .u64 (N x) yk k = pure (.int .u64 (N (x >>> k.toNat))) := by
  simp only [Op.shift, show ¬ k < 0 by omega, if_false, IntKind.bits, N_shr]
@[go_sem ↓] theorem op_shl_lit (yk : IntKind) (k : Int) (h : 0 ≤ k) (hn : n < 18446744073709551616) : Op.shift .shl .u64 (no_index (OfNat.ofNat n)) yk k = pure (.int .u64 (N (BitVec.ofNat 64 n <<< k.toNat))) := by
  rw [← op_shl (BitVec.ofNat 64 n) yk k h, N_ofNat n hn]; rfl
@[go_sem ↓] theorem op_shl_N (yk : IntKind) : Op.shift .shl .u64 (N x) yk (N y) = pure (.int .u64 (N (x <<< y.toNat))) := by
  rw [op_shl x yk (N y) (N_nonneg y)]; unfold N; rw [Int.toNat_natCast]
@[go_sem ↓] theorem op_shr_N (yk : IntKind) : Op.shift .shr .u64 (N x) yk (N y) = pure (.int .u64 (N (x >>> y.toNat))) := by
  rw [op_shr x yk (N y) (N_nonneg y)]; unfold N; rw [Int.toNat_natCast]
@[go_sem] theorem N_toNat : (N x).toNat = x.toNat := by unfold N; omega
@[go_sem] theorem N_nonneg' : (0 ≤ N x) = True := eq_true (N_nonneg x)
/-- A literal word is a word: so all words stand in one form. -/
@[go_sem] theorem lit_N (h : n < 18446744073709551616) : Value.int .u64 (no_index (OfNat.ofNat n)) = Value.int .u64 (N (BitVec.ofNat 64 n)) := by rw [N_lit n h]
/-- a literal on the right, on the left -/
@[go_sem ↓] theorem ar_lit (op : BinOp) (h : n < 18446744073709551616) : Op.intArith op .u64 (N x) (no_index (OfNat.ofNat n)) = Op.intArith op .u64 (N x) (N (BitVec.ofNat 64 n)) := by rw [N_lit n h]
@[go_sem ↓] theorem ar_lit' (op : BinOp) (h : n < 18446744073709551616) : Op.intArith op .u64 (no_index (OfNat.ofNat n)) (N x) = Op.intArith op .u64 (N (BitVec.ofNat 64 n)) (N x) := by rw [N_lit n h]
@[go_sem ↓] theorem bi_lit (op : BinOp) (h : n < 18446744073709551616) : Op.intBits op .u64 (N x) (no_index (OfNat.ofNat n)) = Op.intBits op .u64 (N x) (N (BitVec.ofNat 64 n)) := by rw [N_lit n h]
@[go_sem ↓] theorem bi_lit' (op : BinOp) (h : n < 18446744073709551616) : Op.intBits op .u64 (no_index (OfNat.ofNat n)) (N x) = Op.intBits op .u64 (N (BitVec.ofNat 64 n)) (N x) := by rw [N_lit n h]
@[go_sem ↓] theorem di_lit (op : BinOp) (h : n < 18446744073709551616) : Op.intDiv op .u64 (N x) (no_index (OfNat.ofNat n)) = Op.intDiv op .u64 (N x) (N (BitVec.ofNat 64 n)) := by rw [N_lit n h]
@[go_sem ↓] theorem di_lit' (op : BinOp) (h : n < 18446744073709551616) : Op.intDiv op .u64 (no_index (OfNat.ofNat n)) (N x) = Op.intDiv op .u64 (N (BitVec.ofNat 64 n)) (N x) := by rw [N_lit n h]
end
/-- a cell, a mark, kept from the rules of simp -/
def raw (w : World) (b o : Nat) : Option Value := w.cell? ⟨b, o, none⟩
def rawF (w : World) (b o : Nat) : Bool := w.frozen? ⟨b, o, none⟩
@[go_sem] theorem cell_alloc_if (w : World) (c : Array Value) (t : TypeId) (n i : Nat) : (w.alloc (.cells c t)).cell? ⟨n, i, none⟩ = if n < w.heap.size then w.cell? ⟨n, i, none⟩ else if n = w.heap.size then c[i]? else raw (w.alloc (.cells c t)) n i := by
  split
  · exact World.cell?_alloc_lt w _ _ (by assumption)
  · split
    · rename_i h1 h2; exact World.cell?_alloc_at c t n i h2
    · rfl
@[go_sem] theorem frozen_alloc_if (w : World) (c : Array Value) (t : TypeId) (n i : Nat) : (w.alloc (.cells c t)).frozen? ⟨n, i, none⟩ = if n < w.heap.size then w.frozen? ⟨n, i, none⟩ else false := by
  rw [frozen?_alloc_cells]
  split
  · rfl
  · rename_i h
    have e : w.heap[n]? = none := by simp; omega
    simp [World.frozen?, e]
/-- Old cells, old marks and the size, behind a call: as rules whose test is decided by arithmetic. -/
theorem bcell {W w1 : World} (hb : Below W.heap.size W w1) : (∀ b o, w1.cell? ⟨b, o, none⟩ = if b < W.heap.size then W.cell? ⟨b, o, none⟩ else raw w1 b o) ∧ (∀ b o, w1.frozen? ⟨b, o, none⟩ = if b < W.heap.size then W.frozen? ⟨b, o, none⟩ else rawF w1 b o) ∧ W.heap.size ≤ w1.heap.size :=
  ⟨fun b o => by split; exact hb.cell (p := ⟨b, o, none⟩) (by assumption); rfl, fun b o => by split; exact hb.frozen (p := ⟨b, o, none⟩) (by assumption); rfl, hb.size⟩
theorem below_dn {B : Nat} {a w : World} (h : Below B a w) (n : Nat) : Below B a (w.drewN n) := h.trans ⟨rfl, rfl, rfl, Nat.le_refl _, fun _ _ => rfl⟩
end Hk
