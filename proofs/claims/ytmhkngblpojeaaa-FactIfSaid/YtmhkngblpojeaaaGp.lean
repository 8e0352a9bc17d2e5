/- Words as the model has them: how the walk reckons with 64-bit numbers. No condition. What a statement of a law asks behind the call, from 'old memory is as it was'; and words out of the model's integers. No condition but those in each statement. An argument of numbers and bools alone, in structs and arrays, opened: its cells, and how it reads in any memory. No condition but those in each statement. A cell that is there stays as it is behind a call. No condition but those in each statement. A region that draws its order, whose first operations and callees keep a class of worlds, and whose last ones go one by one: one walk of the text's order serves every order. No condition but those in each statement. -/
import Derived.WalkKit
import Derived.ProofKit
import Derived.Below
import Derived.Lib.Hide
import Derived.BigQuiet
import Derived.Deep.QuietTactic
import Derived.Handy
import Derived.ChangeSame
import Derived.OpenShut
import Derived.StillTail
import Derived.Deep.Quiet
namespace Hk
open Go Go.RowKit

/-- A word as the model's number. (A plain definition: no rule of simp goes behind it.) -/
def N (x : BitVec 64) : Int := x.toNat
theorem N_nonneg (x : BitVec 64) : 0 ≤ N x := Int.natCast_nonneg _
theorem N_lt (x : BitVec 64) : N x < 18446744073709551616 := by unfold N; have := x.isLt; omega
theorem N_inj (x y : BitVec 64) : N x = N y ↔ x = y := by
  unfold N; rw [Int.natCast_inj]; exact BitVec.toNat_inj
theorem N_ofNat (n : Nat) (h : n < 18446744073709551616) : N (BitVec.ofNat 64 n) = (n : Int) := by
  unfold N; rw [BitVec.toNat_ofNat, Nat.mod_eq_of_lt h]
theorem wrap_N (i : Int) : IntKind.u64.wrap i = N (BitVec.ofInt 64 i) := by
  rw [IntKind.wrap_u64]; unfold N; rw [BitVec.toNat_ofInt]
  have : (0 : Int) ≤ i % ((2 ^ 64 : Nat) : Int) := Int.emod_nonneg _ (by decide)
  rw [Int.toNat_of_nonneg this]; rfl
theorem ofInt_N (x : BitVec 64) : BitVec.ofInt 64 (N x) = x := by
  unfold N; rw [BitVec.ofInt_natCast, BitVec.ofNat_toNat, BitVec.setWidth_eq]
theorem ofInt_toInt' (x : BitVec 64) : (N x - x.toInt) % 18446744073709551616 = 0 := by
  unfold N; rw [BitVec.toInt_eq_toNat_cond]; split <;> omega

section
variable (x y : BitVec 64) (n : Nat)
theorem wrap_add : IntKind.u64.wrap (N x + N y) = N (x + y) := by
  rw [IntKind.wrap_u64]; unfold N; rw [BitVec.toNat_add]; rfl
theorem wrap_sub : IntKind.u64.wrap (N x - N y) = N (x - y) := by
  rw [IntKind.wrap_u64]; unfold N; rw [BitVec.toNat_sub]
  have := x.isLt; have := y.isLt
  omega
theorem wrap_mul : IntKind.u64.wrap (N x * N y) = N (x * y) := by
  rw [IntKind.wrap_u64]; unfold N; rw [BitVec.toNat_mul]; rfl
@[go_sem ↓] theorem op_add : Op.intArith .add .u64 (N x) (N y) = pure (.int .u64 (N (x + y))) := by
  simp only [Op.intArith, wrap_add]
@[go_sem ↓] theorem op_sub : Op.intArith .sub .u64 (N x) (N y) = pure (.int .u64 (N (x - y))) := by
  simp only [Op.intArith, wrap_sub]
@[go_sem ↓] theorem op_mul : Op.intArith .mul .u64 (N x) (N y) = pure (.int .u64 (N (x * y))) := by
  simp only [Op.intArith, wrap_mul]
theorem wrap_toNat : IntKind.u64.wrap (x.toNat : Int) = N x := by
  rw [IntKind.wrap_u64]; unfold N; have := x.isLt; omega
@[go_sem ↓] theorem op_and : Op.intBits .and .u64 (N x) (N y) = pure (.int .u64 (N (x &&& y))) := by
  simp only [Op.intBits, IntKind.bits, ofInt_N, wrap_toNat]; rfl
@[go_sem ↓] theorem op_or : Op.intBits .or .u64 (N x) (N y) = pure (.int .u64 (N (x ||| y))) := by
  simp only [Op.intBits, IntKind.bits, ofInt_N, wrap_toNat]; rfl
@[go_sem ↓] theorem op_xor : Op.intBits .xor .u64 (N x) (N y) = pure (.int .u64 (N (x ^^^ y))) := by
  simp only [Op.intBits, IntKind.bits, ofInt_N, wrap_toNat]; rfl
@[go_sem ↓] theorem op_andNot : Op.intBits .andNot .u64 (N x) (N y) = pure (.int .u64 (N (x &&& ~~~y))) := by
  simp only [Op.intBits, IntKind.bits, ofInt_N, wrap_toNat]; rfl
@[go_sem] theorem N_beq : (N x == N y) = (x == y) := by rw [Bool.eq_iff_iff, beq_iff_eq, beq_iff_eq]; exact N_inj x y
@[go_sem] theorem N_bne : (N x != N y) = !(x == y) := by unfold bne; rw [N_beq]
@[go_sem] theorem N_lt_iff : (N x < N y) = (x < y) := by unfold N; rw [BitVec.lt_def]; apply propext; omega
@[go_sem] theorem N_le_iff : (N x ≤ N y) = (x ≤ y) := by unfold N; rw [BitVec.le_def]; apply propext; omega
theorem N_lit (h : n < 18446744073709551616) : N (BitVec.ofNat 64 n) = (OfNat.ofNat n : Int) := N_ofNat n h
@[go_sem] theorem N_beq_lit (h : n < 18446744073709551616) : (N x == (no_index (OfNat.ofNat n))) = (x == BitVec.ofNat 64 n) := by rw [← N_lit n h, N_beq]
@[go_sem] theorem N_bne_lit (h : n < 18446744073709551616) : (N x != (no_index (OfNat.ofNat n))) = !(x == BitVec.ofNat 64 n) := by rw [← N_lit n h, N_bne]
@[go_sem] theorem N_lt_lit (h : n < 18446744073709551616) : (N x < (no_index (OfNat.ofNat n))) = (x < BitVec.ofNat 64 n) := by rw [← N_lit n h, N_lt_iff]
@[go_sem] theorem N_le_lit (h : n < 18446744073709551616) : (N x ≤ (no_index (OfNat.ofNat n))) = (x ≤ BitVec.ofNat 64 n) := by rw [← N_lit n h, N_le_iff]
@[go_sem] theorem N_lit_lt (h : n < 18446744073709551616) : ((no_index (OfNat.ofNat n)) < N x) = (BitVec.ofNat 64 n < x) := by rw [← N_lit n h, N_lt_iff]
@[go_sem] theorem N_lit_le (h : n < 18446744073709551616) : ((no_index (OfNat.ofNat n)) ≤ N x) = (BitVec.ofNat 64 n ≤ x) := by rw [← N_lit n h, N_le_iff]
theorem N_div : (N x).tdiv (N y) = N (x / y) := by
  unfold N; rw [BitVec.toNat_udiv, ← Int.ofNat_tdiv]
theorem N_mod : (N x).tmod (N y) = N (x % y) := by
  unfold N; rw [BitVec.toNat_umod, ← Int.ofNat_tmod]
theorem wrap_N' : IntKind.u64.wrap (N x) = N x := by
  rw [IntKind.wrap_u64]; have := N_nonneg x; have := N_lt x; omega
theorem N_ne_zero (h : y ≠ 0#64) : ¬ N y = 0 := by
  intro e; apply h; rw [← N_inj]; rw [e]; rfl
@[go_sem ↓] theorem op_quo (h : y ≠ 0#64) : Op.intDiv .quo .u64 (N x) (N y) = pure (.int .u64 (N (x / y))) := by
  simp only [Op.intDiv, N_ne_zero y h, if_false, N_div, wrap_N']
@[go_sem ↓] theorem op_rem (h : y ≠ 0#64) : Op.intDiv .rem .u64 (N x) (N y) = pure (.int .u64 (N (x % y))) := by
  simp only [Op.intDiv, N_ne_zero y h, if_false, N_mod]
theorem N_shl (k : Nat) : IntKind.u64.wrap (N x * 2 ^ (min k 64)) = N (x <<< k) := by
  rw [IntKind.wrap_u64]; unfold N
  rw [BitVec.toNat_shiftLeft, Nat.shiftLeft_eq]
  have e : ((x.toNat : Int) * 2 ^ (min k 64)) = ((x.toNat * 2 ^ (min k 64) : Nat) : Int) := by rw [Int.natCast_mul, Int.natCast_pow]; rfl
  rw [e]
  have : x.toNat * 2 ^ (min k 64) % 2 ^ 64 = x.toNat * 2 ^ k % 2 ^ 64 := by
    rcases Nat.le_total k 64 with h | h
    · rw [Nat.min_eq_left h]
    · rw [Nat.min_eq_right h]
      obtain ⟨j, rfl⟩ := Nat.exists_eq_add_of_le h
      rw [Nat.pow_add, ← Nat.mul_assoc, Nat.mul_mod_left, Nat.mul_right_comm, Nat.mul_mod_left]
  rw [← this]; omega
theorem N_shr (k : Nat) : (N x).fdiv (2 ^ (min k 64)) = N (x >>> k) := by
  have hp : (2 : Int) ^ (min k 64) = ((2 ^ (min k 64) : Nat) : Int) := by rw [Int.natCast_pow]; rfl
  rw [hp, Int.fdiv_eq_ediv_of_nonneg _ (Int.natCast_nonneg _)]
  unfold N
  rw [BitVec.toNat_ushiftRight, Nat.shiftRight_eq_div_pow, ← Int.natCast_ediv]
  congr 1
  rcases Nat.le_total k 64 with h | h
  · rw [Nat.min_eq_left h]
  · rw [Nat.min_eq_right h, Nat.div_eq_of_lt x.isLt]
    exact (Nat.div_eq_of_lt (Nat.lt_of_lt_of_le x.isLt (Nat.pow_le_pow_right (by omega) h))).symm
@[go_sem ↓] theorem op_shl (yk : IntKind) (k : Int) (h : 0 ≤ k) : Op.shift .shl .u64 (N x) yk k = pure (.int .u64 (N (x <<< k.toNat))) := by
  simp only [Op.shift, show ¬ k < 0 by omega, if_false, IntKind.bits, N_shl]
@[go_sem ↓] theorem op_shr (yk : IntKind) (k : Int) (h : 0 ≤ k) : Op.shift .shr .u64 (N x) yk k = pure (.int .u64 (N (x >>> k.toNat))) := by
  simp only [Op.shift, show ¬ k < 0 by omega, if_false, IntKind.bits, N_shr]
@[go_sem ↓] theorem op_shl_lit (yk : IntKind) (k : Int) (h : 0 ≤ k) (hn : n < 18446744073709551616) : Op.shift .shl .u64 (no_index (OfNat.ofNat n)) yk k = pure (.int .u64 (N (BitVec.ofNat 64 n <<< k.toNat))) := by
  rw [← op_shl (BitVec.ofNat 64 n) yk k h, N_ofNat n hn]; rfl
@[go_sem ↓] theorem op_shl_N (yk : IntKind) : Op.shift .shl .u64 (N x) yk (N y) = pure (.int .u64 (N (x <<< y.toNat))) := by
  rw [op_shl x yk (N y) (N_nonneg y)]; unfold N; rw [Int.toNat_natCast]
@[go_sem ↓] theorem op_shr_N (yk : IntKind) : Op.shift .shr .u64 (N x) yk (N y) = pure (.int .u64 (N (x >>> y.toNat))) := by
  rw [op_shr x yk (N y) (N_nonneg y)]; unfold N; rw [Int.toNat_natCast]
@[go_sem] theorem N_toNat : (N x).toNat = x.toNat := by unfold N; omega
@[go_sem] theorem N_nonneg' : (0 ≤ N x) = True := eq_true (N_nonneg x)
/-- A literal word is a word: so all words stand in one form. -/
@[go_sem] theorem lit_N (h : n < 18446744073709551616) : Value.int .u64 (no_index (OfNat.ofNat n)) = Value.int .u64 (N (BitVec.ofNat 64 n)) := by rw [N_lit n h]
/-- a literal on the right, on the left -/
@[go_sem ↓] theorem ar_lit (op : BinOp) (h : n < 18446744073709551616) : Op.intArith op .u64 (N x) (no_index (OfNat.ofNat n)) = Op.intArith op .u64 (N x) (N (BitVec.ofNat 64 n)) := by rw [N_lit n h]
@[go_sem ↓] theorem ar_lit' (op : BinOp) (h : n < 18446744073709551616) : Op.intArith op .u64 (no_index (OfNat.ofNat n)) (N x) = Op.intArith op .u64 (N (BitVec.ofNat 64 n)) (N x) := by rw [N_lit n h]
@[go_sem ↓] theorem bi_lit (op : BinOp) (h : n < 18446744073709551616) : Op.intBits op .u64 (N x) (no_index (OfNat.ofNat n)) = Op.intBits op .u64 (N x) (N (BitVec.ofNat 64 n)) := by rw [N_lit n h]
@[go_sem ↓] theorem bi_lit' (op : BinOp) (h : n < 18446744073709551616) : Op.intBits op .u64 (no_index (OfNat.ofNat n)) (N x) = Op.intBits op .u64 (N (BitVec.ofNat 64 n)) (N x) := by rw [N_lit n h]
@[go_sem ↓] theorem di_lit (op : BinOp) (h : n < 18446744073709551616) : Op.intDiv op .u64 (N x) (no_index (OfNat.ofNat n)) = Op.intDiv op .u64 (N x) (N (BitVec.ofNat 64 n)) := by rw [N_lit n h]
@[go_sem ↓] theorem di_lit' (op : BinOp) (h : n < 18446744073709551616) : Op.intDiv op .u64 (no_index (OfNat.ofNat n)) (N x) = Op.intDiv op .u64 (N (BitVec.ofNat 64 n)) (N x) := by rw [N_lit n h]
end
/-- a cell, a mark, kept from the rules of simp -/
def raw (w : World) (b o : Nat) : Option Value := w.cell? ⟨b, o, none⟩
def rawF (w : World) (b o : Nat) : Bool := w.frozen? ⟨b, o, none⟩
@[go_sem] theorem cell_alloc_if (w : World) (c : Array Value) (t : TypeId) (n i : Nat) : (w.alloc (.cells c t)).cell? ⟨n, i, none⟩ = if n < w.heap.size then w.cell? ⟨n, i, none⟩ else if n = w.heap.size then c[i]? else raw (w.alloc (.cells c t)) n i := by
  split
  · exact World.cell?_alloc_lt w _ _ (by assumption)
  · split
    · rename_i h1 h2; exact World.cell?_alloc_at c t n i h2
    · rfl
@[go_sem] theorem frozen_alloc_if (w : World) (c : Array Value) (t : TypeId) (n i : Nat) : (w.alloc (.cells c t)).frozen? ⟨n, i, none⟩ = if n < w.heap.size then w.frozen? ⟨n, i, none⟩ else false := by
  rw [frozen?_alloc_cells]
  split
  · rfl
  · rename_i h
    have e : w.heap[n]? = none := by simp; omega
    simp [World.frozen?, e]
/-- Old cells, old marks and the size, behind a call: as rules whose test is decided by arithmetic. -/
theorem bcell {W w1 : World} (hb : Below W.heap.size W w1) : (∀ b o, w1.cell? ⟨b, o, none⟩ = if b < W.heap.size then W.cell? ⟨b, o, none⟩ else raw w1 b o) ∧ (∀ b o, w1.frozen? ⟨b, o, none⟩ = if b < W.heap.size then W.frozen? ⟨b, o, none⟩ else rawF w1 b o) ∧ W.heap.size ≤ w1.heap.size :=
  ⟨fun b o => by split; exact hb.cell (p := ⟨b, o, none⟩) (by assumption); rfl, fun b o => by split; exact hb.frozen (p := ⟨b, o, none⟩) (by assumption); rfl, hb.size⟩
theorem below_dn {B : Nat} {a w : World} (h : Below B a w) (n : Nat) : Below B a (w.drewN n) := h.trans ⟨rfl, rfl, rfl, Nat.le_refl _, fun _ _ => rfl⟩
end Hk

namespace Hk
open Go Go.RowKit Go.WideShapes Go.ChangeShapes
section
variable {H : Type} {enc : TypeId × Value → H} {P : Program}
theorem post_below {f : Func} {s : ChangeSpec} {apart fresh handsOn again : Bool} {W W' : World} {args : Array Value} {v : Value} {ds gs : List (DataW H)} {before pa pv : List MemPlace}
    (hW : DataW.Whole enc P f.params.toList s.vars apart W args.toList ds gs before)
    (hres : ∀ (b : Nat) (sp : Nat → Bool) (hd : Bool), DataW.TrodAll enc P W' b sp hd f.resultTypes.toList (v.resultList f.resultTypes.size) (s.fn H (ds ++ gs)).results [])
    (hargs : ∀ sp : Nat → Bool, (∀ p ∈ before, sp p.block = true) → DataW.TrodAll enc P W' 0 sp true f.params.toList args.toList (s.fn H (ds ++ gs)).args pa)
    (hvars : ∀ sp : Nat → Bool, (∀ p ∈ before, sp p.block = true) → DataW.TrodVars enc P W' sp s.vars (s.fn H (ds ++ gs)).vars pv)
    (hps : before = pa ++ pv) (hb : Below W.heap.size W W')
    (hok : ∀ (j : Nat) (t : TypeId) (r : Value), f.resultTypes[j]? = some t → (v.resultList f.resultTypes.size)[j]? = some r → Value.okWide P W' .any 0 t r) :
    s.post enc P f apart fresh handsOn again W args v W' := by
  have old : ∀ p ∈ before, p.block < W.heap.size := fun p hp => hW.lt p hp
  have all : ∀ p ∈ before, (fun b => decide (b < W.heap.size)) p.block = true := fun p hp => decide_eq_true (old p hp)
  refine ⟨ds, gs, before, [], pa, pv, hW, hres _ _ _, hargs _ all, hvars _ all, World.keptBut_mono (fun p hp => ⟨hp, ?_⟩) (hb.frame (· ∈ before)), fun _ => ?_⟩
  · rw [hps, List.mem_append] at hp; exact .inr hp
  · obtain ⟨_, _, _, _, _, hz, hn⟩ := hW
    refine ⟨hok, _, _, ([] ++ pa) ++ pv, ⟨[] ++ pa, pv, trodAll_append (hargs _ (fun _ _ => rfl)) (hres _ _ _), hvars _ (fun _ _ => rfl), rfl, ?_, ?_⟩, ?_⟩
    · intro b off hp
      have hin : MemPlace.cell b off ∈ before := by rw [hps]; simpa using hp
      rw [hb.frozen (old _ hin)]
      exact hz b off hin
    · intro ha
      have := hn ha
      rw [hps] at this
      simpa using this
    · intro p hp _
      rw [hps]
      simpa using hp
end
theorem word_of {x : Int} (h : (Lit.int .u64 x).wf = true) : ∃ b : BitVec 64, x = N b := by
  simp [Lit.wf, IntKind.min, IntKind.max, IntKind.signed, IntKind.bits] at h
  refine ⟨BitVec.ofNat 64 x.toNat, ?_⟩
  rw [N_ofNat _ (by omega)]; omega
theorem u8_of {x : Int} (h : (Lit.int .u8 x).wf = true) : 0 ≤ x ∧ x ≤ 255 := by
  simp [Lit.wf, IntKind.min, IntKind.max, IntKind.signed, IntKind.bits] at h; omega
theorem i64_of {x : Int} (h : (Lit.int .i64 x).wf = true) : -9223372036854775808 ≤ x ∧ x ≤ 9223372036854775807 := by
  simp [Lit.wf, IntKind.min, IntKind.max, IntKind.signed, IntKind.bits] at h; omega
theorem i16_of {x : Int} (h : (Lit.int .i16 x).wf = true) : -32768 ≤ x ∧ x ≤ 32767 := by
  simp [Lit.wf, IntKind.min, IntKind.max, IntKind.signed, IntKind.bits] at h; omega
end Hk

namespace Hk
open Go Go.ChangeShapes Go.WideShapes
section
variable {H : Type} {enc : TypeId × Value → H} {P : Program}
/-- a type of numbers and bools alone -/
def flat (P : Program) : Nat → TypeId → Bool
  | 0, _ => false
  | n + 1, t =>
    match P.underlying t with
    | some .bool => true
    | some (.int _) => true
    | some (.struct fs) => fs.toList.all fun f => flat P n f.type
    | some (.array _ e) => flat P n e
    | _ => false
/-- what stands in the cell i of such a type: a number of a kind; none: a bool -/
def leafAt (P : Program) : Nat → TypeId → Nat → Option (Option IntKind)
  | 0, _, _ => none
  | n + 1, t, i =>
    match P.underlying t with
    | some .bool => if i = 0 then some none else none
    | some (.int k) => if i = 0 then some (some k) else none
    | some (.struct fs) => (fs.toList.find? fun f => decide (f.offset ≤ i) && decide (i < f.offset + P.cellsOf f.type)).bind fun f => leafAt P n f.type (i - f.offset)
    | some (.array m e) => if i < m * P.cellsOf e then leafAt P n e (i % P.cellsOf e) else none
    | _ => none
def fits : Option IntKind → Value → Prop
  | some k, v => ∃ x, v = .int k x ∧ (Lit.int k x).wf = true
  | none, v => ∃ b, v = .bool b
theorem mapM_of_get {α β : Type} {g : α → Option β} : ∀ (L : List α) (xs : List β), xs.length = L.length → (∀ (i : Nat) (f : α), L[i]? = some f → g f = xs[i]?) → L.mapM g = some xs
  | [], xs, hl, _ => by
    obtain rfl : xs = [] := List.eq_nil_of_length_eq_zero hl
    rfl
  | a :: L, xs, hl, h => by
    cases xs with
    | nil => simp at hl
    | cons x xs =>
      have h0 := h 0 a rfl
      have ih := mapM_of_get L xs (by simpa using hl) fun i f hi => by simpa using h (i + 1) f (by simpa using hi)
      rw [List.mapM_cons, h0, ih]
      rfl
/-- such a value reads alike in any memory -/
theorem trod_flat : ∀ (n : Nat) (t : TypeId), flat P n t = true → ∀ (fuel : Nat) (w : World) (base : Nat) (sp : Nat → Bool) (held : Bool) (cs : List Value) (x : DataW H × List MemPlace), DataW.trod enc P w base sp held fuel t cs = some x →
    x.2 = [] ∧ ∀ (w' : World) (base' : Nat) (sp' : Nat → Bool) (held' : Bool), DataW.trod enc P w' base' sp' held' fuel t cs = some x := by
  intro n
  induction n with
  | zero => intro t h; simp [flat] at h
  | succ n ih =>
    intro t hf fuel w base sp held cs x hx
    unfold flat at hf
    cases fuel with
    | zero => simp [DataW.trod] at hx
    | succ m =>
    split at hf
    · rename_i hu
      obtain ⟨b, rfl, rfl⟩ := DataW.trod_bool hu hx
      exact ⟨rfl, fun w' base' sp' held' => by simp [DataW.trod, hu]⟩
    · rename_i k hu
      obtain ⟨b, rfl, rfl, wf⟩ := DataW.trod_int hu hx
      exact ⟨rfl, fun w' base' sp' held' => by simp [DataW.trod, hu, wf]⟩
    · rename_i fs hu
      obtain ⟨xs, m', hm, rfl, hl, hlen, hat⟩ := DataW.trod_struct hu hx
      obtain rfl : m = m' := by omega
      rw [List.all_eq_true] at hf
      have key : ∀ (i : Nat) (f : Field), fs[i]? = some f → ∃ y, xs[i]? = some y ∧ y.2 = [] ∧ ∀ (w' : World) (base' : Nat) (sp' : Nat → Bool) (held' : Bool), DataW.trod enc P w' base' sp' held' m f.type ((cs.drop f.offset).take (P.cellsOf f.type)) = some y := by
        intro i f hi
        have hil : i < fs.size := (Array.getElem?_eq_some_iff.1 hi).1
        have hy : xs[i]? = some (xs[i]'(by omega)) := List.getElem?_eq_getElem (by omega)
        have h1 := hat i f hi
        rw [hy] at h1
        have hmem : f ∈ fs.toList := by
          obtain ⟨h2, h3⟩ := Array.getElem?_eq_some_iff.1 hi
          rw [← h3]; simp
        obtain ⟨a, b⟩ := ih f.type (hf f hmem) m w base sp held _ _ h1
        exact ⟨_, hy, a, b⟩
      refine ⟨?_, fun w' base' sp' held' => ?_⟩
      · show xs.flatMap (·.2) = []
        rw [List.flatMap_eq_nil_iff]
        intro y hy
        obtain ⟨i, hi, rfl⟩ := List.getElem_of_mem hy
        obtain ⟨y', h1, h2, _⟩ := key i (fs[i]'(by omega)) (by rw [Array.getElem?_eq_getElem (by omega)])
        rw [List.getElem?_eq_getElem hi] at h1
        cases h1; exact h2
      · rw [DataW.trod_step]
        unfold DataW.trodStep
        simp only [hu]
        rw [if_pos hl, mapM_of_get fs.toList xs (by simpa using hlen) fun i f hi => by
          obtain ⟨y, h1, _, h3⟩ := key i f (by simpa using hi)
          rw [h1]; exact h3 w' base' sp' held']
        rfl
    · rename_i k e hu
      obtain ⟨xs, m', hm, rfl, hl, hlen, hat⟩ := DataW.trod_array hu hx
      obtain rfl : m = m' := by omega
      have key : ∀ (i : Nat), i < k → ∃ y, xs[i]? = some y ∧ y.2 = [] ∧ ∀ (w' : World) (base' : Nat) (sp' : Nat → Bool) (held' : Bool), DataW.trod enc P w' base' sp' held' m e ((cs.drop (i * P.cellsOf e)).take (P.cellsOf e)) = some y := by
        intro i hi
        have hy : xs[i]? = some (xs[i]'(by omega)) := List.getElem?_eq_getElem (by omega)
        have h1 := hat i hi
        rw [hy] at h1
        obtain ⟨a, b⟩ := ih e hf m w base sp held _ _ h1
        exact ⟨_, hy, a, b⟩
      refine ⟨?_, fun w' base' sp' held' => ?_⟩
      · show xs.flatMap (·.2) = []
        rw [List.flatMap_eq_nil_iff]
        intro y hy
        obtain ⟨i, hi, rfl⟩ := List.getElem_of_mem hy
        obtain ⟨y', h1, h2, _⟩ := key i (by omega)
        rw [List.getElem?_eq_getElem hi] at h1
        cases h1; exact h2
      · rw [DataW.trod_step]
        unfold DataW.trodStep
        simp only [hu]
        rw [if_pos hl, mapM_of_get (List.range k) xs (by simpa using hlen) fun i f hi => by
          obtain ⟨hi1, hi2⟩ := List.getElem?_eq_some_iff.1 hi
          simp at hi1 hi2
          subst hi2
          obtain ⟨y, h1, _, h3⟩ := key i hi1
          rw [h1]; exact h3 w' base' sp' held']
        rfl
    · exact absurd hf (by decide)
theorem sub_get {α : Type} {cs : List α} {o c i : Nat} {v : α} (h : ((cs.drop o).take c)[i]? = some v) : cs[o + i]? = some v := by
  rw [List.getElem?_take] at h
  split at h
  · rw [List.getElem?_drop] at h; exact h
  · cases h
/-- what stands in its cells -/
theorem trod_leaf : ∀ (n : Nat) (t : TypeId) (i : Nat) (lf : Option IntKind), leafAt P n t i = some lf → ∀ (fuel : Nat) (w : World) (base : Nat) (sp : Nat → Bool) (held : Bool) (cs : List Value) (x : DataW H × List MemPlace), DataW.trod enc P w base sp held fuel t cs = some x →
    ∃ v, cs[i]? = some v ∧ fits lf v := by
  intro n
  induction n with
  | zero => intro t i lf h; simp [leafAt] at h
  | succ n ih =>
    intro t i lf hf fuel w base sp held cs x hx
    unfold leafAt at hf
    split at hf
    · rename_i hu
      obtain ⟨b, rfl, rfl⟩ := DataW.trod_bool hu hx
      split at hf
      · rename_i h0; subst h0; cases hf; exact ⟨_, rfl, b, rfl⟩
      · cases hf
    · rename_i k hu
      obtain ⟨b, rfl, rfl, wf⟩ := DataW.trod_int hu hx
      split at hf
      · rename_i h0; subst h0; cases hf; exact ⟨_, rfl, b, rfl, wf⟩
      · cases hf
    · rename_i fs hu
      obtain ⟨xs, m', hm, rfl, hl, hlen, hat⟩ := DataW.trod_struct hu hx
      simp only [Option.bind_eq_some_iff] at hf
      obtain ⟨f, hfind, hleaf⟩ := hf
      have hmem := List.mem_of_find?_eq_some hfind
      have hp := List.find?_some hfind
      simp only [Bool.and_eq_true, decide_eq_true_iff] at hp
      obtain ⟨j, hj, hjf⟩ := List.getElem_of_mem hmem
      have hjs : j < fs.size := by simpa using hj
      have hat' := hat j f (by rw [Array.getElem?_eq_getElem hjs]; simpa using hjf)
      rw [List.getElem?_eq_getElem (show j < xs.length by omega)] at hat'
      obtain ⟨v, h1, h2⟩ := ih f.type _ lf hleaf _ _ _ _ _ _ _ hat'
      refine ⟨v, ?_, h2⟩
      have := sub_get h1
      rwa [show f.offset + (i - f.offset) = i by omega] at this
    · rename_i k e hu
      obtain ⟨xs, m', hm, rfl, hl, hlen, hat⟩ := DataW.trod_array hu hx
      split at hf
      · rename_i hi
        have hc : 0 < P.cellsOf e := by
          apply Nat.pos_of_ne_zero
          intro h0; rw [h0] at hi; omega
        have hq : i / P.cellsOf e < k := by rw [Nat.div_lt_iff_lt_mul hc]; exact hi
        have hat' := hat (i / P.cellsOf e) hq
        rw [List.getElem?_eq_getElem (show i / P.cellsOf e < xs.length by omega)] at hat'
        obtain ⟨v, h1, h2⟩ := ih e _ lf hf _ _ _ _ _ _ _ hat'
        refine ⟨v, ?_, h2⟩
        have := sub_get h1
        rwa [show i / P.cellsOf e * P.cellsOf e + i % P.cellsOf e = i by rw [Nat.mul_comm]; exact Nat.div_add_mod i _] at this
      · cases hf
    · cases hf
/-- An argument that is a struct or an array of numbers and bools alone. -/
theorem open_flat {n : Nat} {t : TypeId} (hagg : (match P.underlying t with | some (.struct _) | some (.array _ _) => true | _ => false) = true) (hf : flat P n t = true) {w : World} {base b0 : Nat} {sp : Nat → Bool} {held : Bool} {r : Reach} {v : Value} {d : DataW H} {ps : List MemPlace}
    (hv : Value.okWide P w r b0 t v) (h : DataW.Trod enc P w base sp held t v d ps) :
    ∃ cs : Array Value, v = .agg cs ∧ cs.size = P.cellsOf t ∧ ps = [] ∧ (∀ (i : Nat) (lf : Option IntKind), leafAt P n t i = some lf → ∃ c, cs[i]? = some c ∧ fits lf c) ∧
      ∀ (w' : World) (base' : Nat) (sp' : Nat → Bool) (held' : Bool), DataW.Trod enc P w' base' sp' held' t (.agg cs) d [] := by
  have hcs : ∃ cs : Array Value, v = .agg cs ∧ cs.size = P.cellsOf t := by
    unfold Value.okWide at hv
    split at hv
    · obtain ⟨cs, a, b, _⟩ := hv; exact ⟨cs, a, b⟩
    · obtain ⟨cs, a, b, _⟩ := hv; exact ⟨cs, a, b⟩
    · rename_i h1 h2
      split at hagg
      · rename_i hu; exact absurd hu (h1 _)
      · rename_i hu; exact absurd hu (h2 _ _)
      · cases hagg
  obtain ⟨cs, rfl, hsz⟩ := hcs
  obtain ⟨fuel, hx⟩ := h
  obtain ⟨h1, h2⟩ := trod_flat n t hf fuel w base sp held _ _ hx
  simp only at h1
  subst h1
  refine ⟨cs, rfl, hsz, rfl, fun i lf hl => ?_, fun w' base' sp' held' => ⟨fuel, h2 w' base' sp' held'⟩⟩
  obtain ⟨c, h3, h4⟩ := trod_leaf n t i lf hl fuel w base sp held _ _ hx
  exact ⟨c, by simpa [Value.cells] using h3, h4⟩
end
theorem fits_u64 {c : Value} (h : fits (some .u64) c) : ∃ b : BitVec 64, c = .int .u64 (N b) := by
  obtain ⟨x, rfl, wf⟩ := h
  obtain ⟨b, rfl⟩ := word_of wf
  exact ⟨b, rfl⟩
theorem fits_u8 {c : Value} (h : fits (some .u8) c) : ∃ x : Int, c = .int .u8 x ∧ 0 ≤ x ∧ x ≤ 255 := by
  obtain ⟨x, rfl, wf⟩ := h
  exact ⟨x, rfl, u8_of wf⟩
theorem fits_i64 {c : Value} (h : fits (some .i64) c) : ∃ x : Int, c = .int .i64 x ∧ -9223372036854775808 ≤ x ∧ x ≤ 9223372036854775807 := by
  obtain ⟨x, rfl, wf⟩ := h
  exact ⟨x, rfl, i64_of wf⟩
theorem fits_bool {c : Value} (h : fits none c) : ∃ b : Bool, c = .bool b := h
/-- cells, one by one -/
theorem array_of {cs : Array Value} {l : List Value} (hn : cs.size = l.length) (h : ∀ i, i < l.length → cs[i]? = l[i]?) : cs = l.toArray := by
  apply Array.ext_getElem?
  intro i
  rcases Nat.lt_or_ge i l.length with hi | hi
  · rw [h i hi]; simp
  · rw [Array.getElem?_eq_none (by omega)]; simp; omega
end Hk

namespace Hk
open Go Go.RowKit
/-- a cell that is there stays as it is behind a call -/
theorem cell_keep {w w1 : World} {b o : Nat} {v : Value} (hb : Below w.heap.size w w1) (h : w.cell? ⟨b, o, none⟩ = some v) : w1.cell? ⟨b, o, none⟩ = some v := by
  have hlt : b < w.heap.size := by
    apply Classical.byContradiction
    intro hn
    have e : w.heap[b]? = none := by simp; omega
    simp [World.cell?, e] at h
  rw [hb.cell (p := ⟨b, o, none⟩) hlt]; exact h
theorem cell_lt {w : World} {b o : Nat} {v : Value} (h : w.cell? ⟨b, o, none⟩ = some v) : b < w.heap.size := by
  apply Classical.byContradiction
  intro hn
  have e : w.heap[b]? = none := by simp; omega
  simp [World.cell?, e] at h
theorem below_next {W w w1 : World} (h : Below W.heap.size W w) (hb : Below w.heap.size w w1) : Below W.heap.size W w1 := h.trans (hb.mono h.size)
theorem frozen_keep {w w1 : World} {b o : Nat} {v : Value} (hb : Below w.heap.size w w1) (h : w.cell? ⟨b, o, none⟩ = some v) (hf : ∀ i, w.frozen? ⟨b, i, none⟩ = false) : ∀ i, w1.frozen? ⟨b, i, none⟩ = false := by
  have hlt : b < w.heap.size := by
    apply Classical.byContradiction
    intro hn
    have e : w.heap[b]? = none := by simp; omega
    simp [World.cell?, e] at h
  intro i
  rw [hb.frozen (p := ⟨b, i, none⟩) hlt]; exact hf i
section
variable {P : Program}
/-- A region that draws its order, whose operations and callees keep a class of worlds: one walk of the text's order serves every order. -/
theorem wp_region_class {id : Nat} {Q : Exit → Act → World → Prop} {a : Act} {w : World} {l : List Oper} (C : World → Prop) (hm : P.follows .mixedOrders = true) (hB : Region.lexB .any l.toArray = true)
    (hC : C w.drew) (h : (∀ p : Prop, (∀ w', C w' → p) = p) → wpQuiet P l.toArray C (fun a' => ∀ w', C w' → Q .normal a' w') l a) : (Code.region id l.toArray true).wp P Q a w :=
  wp_region_quiet (C := C) hm hB hC (by simpa using h fun p => propext ⟨fun k => k _ hC, fun k _ _ => k⟩)
theorem quiet_mk {o : Oper} {a : Act} {C : World → Prop} {K : Act → Prop} {v : Value} (h : ∀ w, C w → o.quietAt P a C w v) (hk : K (a.put o.dst v)) : o.quiet P a C K := ⟨v, h, hk⟩
end
end Hk

namespace Hk
open Go
section
variable {P : Program} {ops : Array Oper} {md : Region.Mode} {C : World → Prop}
/-- whatever order is picked among the first n, up to a state of L -/
def wpHeadC (P : Program) (md : Region.Mode) (ops : Array Oper) (C : World → Prop) (n : Nat) (L : Array Bool → Act → Prop) : Nat → Array Bool → Act → Prop
  | 0, listed, a => L listed a
  | f + 1, listed, a => Region.ready md ops listed ≠ [] ∧ ∀ i ∈ Region.ready md ops listed, i < n ∧ qOp P ops C i (wpHeadC P md ops C n L f (listed.setIfInBounds i true)) a
theorem any_of_headC {n g : Nat} {L : Array Bool → Act → Prop} {Q' : Exit → Act → World → Prop} (hL : ∀ listed a w, C w → L listed a → wpAny P md ops Q' g listed a w) :
    ∀ (f : Nat) (listed : Array Bool) (a : Act) (w : World), C w → wpHeadC P md ops C n L f listed a → wpAny P md ops Q' (f + g) listed a w
  | 0, listed, a, w, hw, h => by rw [Nat.zero_add]; exact hL _ _ _ hw h
  | f + 1, listed, a, w, hw, h => by
    rw [show f + 1 + g = (f + g) + 1 by omega]
    exact ⟨fun h0 => absurd h0 h.1, fun i hi => wpOp_of_qOp hw (fun a' w' hw' h' => any_of_headC hL f _ a' w' hw' h') (h.2 i hi).2⟩
theorem headC_first {n i : Nat} {oi : Oper} {v : Value} {L : Array Bool → Act → Prop} (hi : ops[i]? = some oi) (hsel : ∀ (j : Nat) (o : Oper) cs b, ops[j]? = some o → o.op ≠ .select cs b)
    (hs : Region.sinkB md ops n = true) (hc : Region.chainB md ops n = true) (hn : n < ops.size) (hin : i < n)
    (hdone : ∀ listed a, L listed a → ∀ j ∈ Region.ready md ops listed, n ≤ j) :
    ∀ (f : Nat) (listed : Array Bool) (a : Act), HeadInv md ops n listed →
      (∀ j oj, ops[j]? = some oj → j ≠ i → listed.getD j true = false → (∀ e ∈ oj.after, Region.binds md e = true → e.on ≠ i) → oi.apart ops oj = true) →
      i ∈ Region.ready md ops listed → YieldsIn P ops C oi v a →
      wpHeadC P md ops C n L f (listed.setIfInBounds i true) (a.put oi.dst v) → wpHeadC P md ops C n L (f + 1) listed a := by
  intro f
  induction f with
  | zero =>
    intro listed a inv _ hr hy H
    have hun := (mem_ready.1 hr).1
    refine ⟨fun h => (by rw [h] at hr; cases hr), fun j hj => ?_⟩
    have hjn : j < n := by
      rcases Nat.lt_or_ge j n with h | h
      · exact h
      · exact absurd hj (tail_waits hs hc hn inv _ i rfl hin hun j h)
    refine ⟨hjn, ?_⟩
    by_cases hji : j = i
    · subst hji; exact hy.qOp hi H
    · have := hdone _ _ H j (ready_mono hj hji)
      omega
  | succ f ih =>
    intro listed a inv hfree hr hy H
    have hun := (mem_ready.1 hr).1
    refine ⟨fun h => (by rw [h] at hr; cases hr), fun j hj => ?_⟩
    have hjn : j < n := by
      rcases Nat.lt_or_ge j n with h | h
      · exact h
      · exact absurd hj (tail_waits hs hc hn inv _ i rfl hin hun j h)
    refine ⟨hjn, ?_⟩
    by_cases hji : j = i
    · subst hji; exact hy.qOp hi H
    · have h1 := (H.2 j (ready_mono hj hji)).2
      obtain ⟨hjun, oj, hoj, hall⟩ := mem_ready.1 hj
      have hnot : ∀ e ∈ oj.after, Region.binds md e = true → e.on ≠ i := fun e he hb heq => by
        have h1 := hall e he hb
        rw [heq, getD_both hun] at h1
        cases h1
      have h2 := qOp_put hoj (hfree j oj hoj hji hjun hnot) (fun cs b => hsel i oi cs b hi) (fun cs b => hsel j oj cs b hoj) hy h1
      have hfree' : ∀ k ok, ops[k]? = some ok → k ≠ i → (listed.setIfInBounds j true).getD k true = false →
          (∀ e ∈ ok.after, Region.binds md e = true → e.on ≠ i) → oi.apart ops ok = true := fun k ok hk hki hun hno => by
        refine hfree k ok hk hki ?_ hno
        by_cases hjk : j = k
        · subst hjk; exact hjun
        · rw [getD_set_ne true hjk] at hun; exact hun
      refine qOp_mono (fun a' h3 => ih (listed.setIfInBounds j true) a' (inv.set hj hjn) hfree' (ready_mono hr (Ne.symm hji)) h3.1 ?_) h2
      rw [Array.setIfInBounds_comm _ _ hji]
      exact h3.2
theorem headC_lex {n g : Nat} {Lq : Act → Prop} (hsel : Region.noSelect ops = true) (hs : Region.sinkB md ops n = true) (hc : Region.chainB md ops n = true) (hn : n < ops.size) :
    ∀ (l : List Oper) (k : Nat) (listed : Array Bool) (a : Act), (∀ j, j < l.length → l[j]? = ops[k + j]?) → k + l.length = n → HeadInv md ops n listed →
    Region.lexHead md ops g l.length k listed = true → wpQuiet P ops C Lq l a →
    wpHeadC P md ops C n (fun listed' a' => Region.seqB md ops g n listed' = true ∧ Lq a') l.length listed a
  | [], k, listed, a, _, hk, _, hB, h => by
    have : k = n := by simpa using hk
    subst this
    exact ⟨by simpa [Region.lexHead] using hB, h⟩
  | o :: l, k, listed, a, hl, hk, inv, hB, h => by
    have h0 : ops[k]? = some o := by simpa using (hl 0 (by simp)).symm
    simp only [List.length_cons, Region.lexHead, Bool.and_eq_true] at hB
    obtain ⟨⟨hr, hf⟩, hB'⟩ := hB
    have hkn : k < n := by simp only [List.length_cons] at hk; omega
    have hr' : k ∈ Region.ready md ops listed := by simpa using hr
    have hst : qOp P ops C k (wpQuiet P ops C Lq l) a := by unfold qOp; simp only [h0]; exact h
    obtain ⟨v, hy, hK⟩ := yieldsIn_of_qOp h0 hst
    exact headC_first h0 (Region.noSelect_spec hsel) hs hc hn hkn (fun listed' a' hL => seqB_ready hL.1) l.length listed a inv (Region.free_spec h0 hf) hr' hy
      (headC_lex hsel hs hc hn l (k + 1) _ _ (fun j hj => by have := hl (j + 1) (by simp; omega); simpa [Nat.add_assoc, Nat.add_comm 1 j] using this) (by simp only [List.length_cons] at hk; omega) (inv.set hr' hkn) hB' hK)
/-- the first n operations in a class of worlds, the others one by one -/
theorem wp_region_class_tail {id : Nat} {Q : Exit → Act → World → Prop} {a : Act} {w : World} {l : List Oper} (C : World → Prop) (n : Nat) (hm : P.follows .mixedOrders = true) (hB : Region.lexTailB .any l.toArray n = true) (hC : C w.drew)
    (h : (∀ p : Prop, (∀ w', C w' → p) = p) → wpQuiet P l.toArray C (fun a' => ∀ w', C w' → wpList P l.toArray Q (l.drop n) a' w') (l.take n) a) : (Code.region id l.toArray true).wp P Q a w := by
  have h := h fun p => propext ⟨fun k => k _ hC, fun k _ _ => k⟩
  simp only [Region.lexTailB, Bool.and_eq_true, decide_eq_true_eq] at hB
  obtain ⟨⟨⟨⟨hsel, hn⟩, hs⟩, hc⟩, hlex⟩ := hB
  have hn' : n < l.length := by simpa using hn
  have htl : (l.take n).length = n := by simp; omega
  have hdl : (l.drop n).length = l.toArray.size - n := by simp
  have inv0 : HeadInv .any l.toArray n (Array.replicate l.toArray.size false) :=
    ⟨by simp, fun j oj _ hl => (by rw [getD_replicate_false] at hl; cases hl), fun t _ ht => getD_in (by simpa using ht) (getD_replicate_false _ _)⟩
  have H := headC_lex (md := .any) (g := l.toArray.size - n) hsel hs hc hn (l.take n) 0 _ a (fun j hj => by
    have hj' : j < n := by rw [htl] at hj; exact hj
    simp [hj']) (by simpa using htl) inv0 (by rw [htl]; exact hlex) h
  refine wp_region_any hm ?_
  have := any_of_headC (Q' := Q) (g := l.toArray.size - n) (fun listed a' w' hw' hL => by
    have := wpAny_of_seq (md := .any) (Q' := Q) (l.drop n) n listed a' w' (fun j => by simp [List.getElem?_drop]) (by rw [hdl]; exact hL.1) (hL.2 w' hw')
    rwa [hdl] at this) _ _ _ _ hC H
  rw [htl, show n + (l.toArray.size - n) = l.toArray.size by omega] at this
  exact this
end
end Hk

