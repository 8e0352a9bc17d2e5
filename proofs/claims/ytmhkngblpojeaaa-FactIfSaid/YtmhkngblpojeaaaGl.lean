/- The library's Len64, by the shelf's contract: how many bits a number has. No condition. Package fact: ranged; old memory is as it was. No condition. Loads of Tnums, Spans, Facts and of words in a region that draws its order: their value is the cells'. No condition but those in each statement. -/
import Derived.Shelf.Strconv.Itoa0
import Derived.Test.YtmhkngblpojeaaaProg
import Derived.Test.YtmhkngblpojeaaaGf
import Derived.Test.YtmhkngblpojeaaaGp
import Derived.Test.YtmhkngblpojeaaaGt
namespace Hk
open Go Go.Shelf Go.Proofs
def len_ren : Go.Shelf.Ren := ⟨fun | 129 => 93 | n => n, fun | 53 => 23 | 3 => 3 | 4 => 4 | 46 => 113 | 5 => 5 | 9 => 9 | n => n, fun | n => n⟩
theorem len_lays : Go.Proofs.Lays.n129 Try.prog len_ren := {
  mixed := by kernel_rfl
  f129 := Try.func93.trans (congrArg some (by kernel_rfl))
  t3 := Try.underlying3
  a3 := Try.isAgg3
  z3 := Try.sizeOf3
  v3 := Try.zeroValue3
  t4 := Try.underlying4
  a4 := Try.isAgg4
  z4 := Try.sizeOf4
  v4 := Try.zeroValue4
  t5 := Try.underlying5
  a5 := Try.isAgg5
  z5 := Try.sizeOf5
  v5 := Try.zeroValue5
  t9 := Try.underlying9
  a9 := Try.isAgg9
  z9 := Try.sizeOf9
  v9 := Try.zeroValue9
  t46 := Try.underlying113
  a46 := Try.isAgg113
  z46 := Try.sizeOf113
  v46 := Try.zeroValue113
  t53 := Try.underlying23
  a53 := Try.isAgg23
  z53 := Try.sizeOf23
  v53 := Try.zeroValue23 }
theorem bitLenAux_ln : ∀ (f x : Nat), x < 2 ^ f → Go.Lib.bitLenAux f x = ln x
  | 0, x, h => by
    have : x = 0 := by simpa using h
    subst this; rfl
  | f + 1, x, h => by
    unfold Go.Lib.bitLenAux
    split
    · rename_i h0; subst h0; rfl
    · rename_i h0
      rw [bitLenAux_ln f (x / 2) (by rw [Nat.pow_succ] at h; omega)]
      unfold ln
      rw [if_neg h0]
      split
      · rename_i h1
        obtain rfl : x = 1 := by omega
        rfl
      · rename_i h1
        rw [Nat.log2_def x, if_pos (by omega)]
        omega
theorem bitLen_ln (x : BitVec 64) : Go.Lib.bitLen x.toNat = ln x.toNat := bitLenAux_ln 64 _ x.isLt
theorem len64_c (x : BitVec 64) (w : World) : Calls Try.prog 93 #[.int .u64 (N x)] w fun e w' => e = .returned (.int .i64 (Fa.lnW x)) ∧ w = w' := by
  have h := Any.bits_Len64 len_lays (N x) w (N_nonneg x) (by have := N_lt x; omega)
  refine h.mono fun e w' ⟨h1, h2⟩ => ⟨?_, h2.symm⟩
  rw [h1, N_toNat, bitLen_ln]; rfl
end Hk

namespace Hk
open Go Go.RowKit Go.Proofs
set_option linter.unusedSimpArgs false
set_option linter.unusedVariables false
set_option maxRecDepth 100000
attribute [go_sem] Tn.eta
theorem ranged_c (s : Sp) (w : World) : Calls Try.prog 53 #[.agg #[.int .u64 (N s.lo), .int .u64 (N s.hi)]] w fun e w' => e = .returned (.agg #[.int .u64 (N (ranged s).v), .int .u64 (N (ranged s).m)]) ∧ Below w.heap.size w w' := by
  have h0 : ((Fa.lnW (s.lo ^^^ s.hi) : Nat) : Int).toNat = Fa.lnW (s.lo ^^^ s.hi) := Int.toNat_natCast _
  have h1 : 0 ≤ ((Fa.lnW (s.lo ^^^ s.hi) : Nat) : Int) := Int.natCast_nonneg _
  have h2 := Fa.msk_is (Fa.lnW (s.lo ^^^ s.hi)) (Fa.ln_64 _)
  go_enter Try.func53, Try.ntmps53
  go_wp2_with (first | (go_at_call 93; (with_reducible refine (len64_c _ _).mono ?_); rintro e w1 ⟨rfl, rfl⟩))
  refine bodyPost_ret (v := .agg #[.int .u64 (N (ranged s).v), .int .u64 (N (ranged s).m)]) ?_ rfl ⟨rfl, (by repeat' (first | (with_reducible exact Below.refl _ _) | (with_reducible assumption) | (with_reducible refine Below.alloc ?_ ?_ _) | (with_reducible refine Below.setCell ?_ ?_ _) | (with_reducible refine Below.drew ?_) | (with_reducible refine below_dn ?_ _) | (with_reducible refine Below.trans ?_ (Below.mono (by assumption) ?_)) | go_size))⟩
  simp only [results, Try.results53]; simp [*, go_sem, ↓IntWalk.iteOmega, Fa.ranged_W]; try (first | rfl | exact ⟨rfl, rfl⟩)

theorem ranged_c' (x0 y0 : BitVec 64) (w : World) : Calls Try.prog 53 #[.agg #[.int .u64 (N x0), .int .u64 (N y0)]] w fun e w' => e = .returned (.agg #[.int .u64 (N (ranged (⟨x0, y0⟩ : Sp)).v), .int .u64 (N (ranged (⟨x0, y0⟩ : Sp)).m)]) ∧ Below w.heap.size w w' := by
  exact ranged_c (⟨x0, y0⟩ : Sp) w

end Hk

namespace Hk
open Go Go.RowKit Go.Proofs
set_option linter.unusedSimpArgs false
set_option linter.unusedVariables false
set_option maxRecDepth 100000
theorem run_load_Tn (ρ : Operand → Value) (op : Oper) (x : Operand) (b o : Nat) (c0 c1 : Value) (ho : op.op = .load 25 x) (hx : ρ x = .pointer (some ⟨b, o, none⟩)) (w : World) (h0 : w.cell? ⟨b, o, none⟩ = some c0) (h1 : w.cell? ⟨b, o + 1, none⟩ = some c1) :
    (execOp ρ op).run Try.prog w = .ok (.value (.agg #[c0, c1])) w := by
  obtain ⟨dst, op, type, pos, after, guard⟩ := op
  simp only at ho
  subst ho
  go_simp
theorem quiet_load_Tn {op : Oper} {a : Act} {C : World → Prop} {K : Act → Prop} {x : Operand} {b o : Nat} {c0 c1 : Value} (ho : op.op = .load 25 x) (hx : a.eval x = .pointer (some ⟨b, o, none⟩))
    (h : ∀ w, C w → w.cell? ⟨b, o, none⟩ = some c0 ∧ w.cell? ⟨b, o + 1, none⟩ = some c1) (hk : K (a.put op.dst (.agg #[c0, c1]))) : op.quiet Try.prog a C K :=
  quiet_mk (v := .agg #[c0, c1]) (fun w hC => by unfold Oper.quietAt; obtain ⟨h0, h1⟩ := h w hC; rw [run_load_Tn _ op x b o c0 c1 ho hx w h0 h1]; exact ⟨rfl, rfl⟩) hk

theorem run_load_Sp (ρ : Operand → Value) (op : Oper) (x : Operand) (b o : Nat) (c0 c1 : Value) (ho : op.op = .load 27 x) (hx : ρ x = .pointer (some ⟨b, o, none⟩)) (w : World) (h0 : w.cell? ⟨b, o, none⟩ = some c0) (h1 : w.cell? ⟨b, o + 1, none⟩ = some c1) :
    (execOp ρ op).run Try.prog w = .ok (.value (.agg #[c0, c1])) w := by
  obtain ⟨dst, op, type, pos, after, guard⟩ := op
  simp only at ho
  subst ho
  go_simp
theorem quiet_load_Sp {op : Oper} {a : Act} {C : World → Prop} {K : Act → Prop} {x : Operand} {b o : Nat} {c0 c1 : Value} (ho : op.op = .load 27 x) (hx : a.eval x = .pointer (some ⟨b, o, none⟩))
    (h : ∀ w, C w → w.cell? ⟨b, o, none⟩ = some c0 ∧ w.cell? ⟨b, o + 1, none⟩ = some c1) (hk : K (a.put op.dst (.agg #[c0, c1]))) : op.quiet Try.prog a C K :=
  quiet_mk (v := .agg #[c0, c1]) (fun w hC => by unfold Oper.quietAt; obtain ⟨h0, h1⟩ := h w hC; rw [run_load_Sp _ op x b o c0 c1 ho hx w h0 h1]; exact ⟨rfl, rfl⟩) hk

theorem run_load_Fa (ρ : Operand → Value) (op : Oper) (x : Operand) (b o : Nat) (c0 c1 c2 c3 : Value) (ho : op.op = .load 29 x) (hx : ρ x = .pointer (some ⟨b, o, none⟩)) (w : World) (h0 : w.cell? ⟨b, o, none⟩ = some c0) (h1 : w.cell? ⟨b, o + 1, none⟩ = some c1) (h2 : w.cell? ⟨b, o + 2, none⟩ = some c2) (h3 : w.cell? ⟨b, o + 3, none⟩ = some c3) :
    (execOp ρ op).run Try.prog w = .ok (.value (.agg #[c0, c1, c2, c3])) w := by
  obtain ⟨dst, op, type, pos, after, guard⟩ := op
  simp only at ho
  subst ho
  go_simp
theorem quiet_load_Fa {op : Oper} {a : Act} {C : World → Prop} {K : Act → Prop} {x : Operand} {b o : Nat} {c0 c1 c2 c3 : Value} (ho : op.op = .load 29 x) (hx : a.eval x = .pointer (some ⟨b, o, none⟩))
    (h : ∀ w, C w → w.cell? ⟨b, o, none⟩ = some c0 ∧ w.cell? ⟨b, o + 1, none⟩ = some c1 ∧ w.cell? ⟨b, o + 2, none⟩ = some c2 ∧ w.cell? ⟨b, o + 3, none⟩ = some c3) (hk : K (a.put op.dst (.agg #[c0, c1, c2, c3]))) : op.quiet Try.prog a C K :=
  quiet_mk (v := .agg #[c0, c1, c2, c3]) (fun w hC => by unfold Oper.quietAt; obtain ⟨h0, h1, h2, h3⟩ := h w hC; rw [run_load_Fa _ op x b o c0 c1 c2 c3 ho hx w h0 h1 h2 h3]; exact ⟨rfl, rfl⟩) hk

theorem run_load_W (ρ : Operand → Value) (op : Oper) (x : Operand) (b o : Nat) (c0 : Value) (ho : op.op = .load 23 x) (hx : ρ x = .pointer (some ⟨b, o, none⟩)) (w : World) (h0 : w.cell? ⟨b, o, none⟩ = some c0) :
    (execOp ρ op).run Try.prog w = .ok (.value c0) w := by
  obtain ⟨dst, op, type, pos, after, guard⟩ := op
  simp only at ho
  subst ho
  go_simp
theorem quiet_load_W {op : Oper} {a : Act} {C : World → Prop} {K : Act → Prop} {x : Operand} {b o : Nat} {c0 : Value} (ho : op.op = .load 23 x) (hx : a.eval x = .pointer (some ⟨b, o, none⟩))
    (h : ∀ w, C w → w.cell? ⟨b, o, none⟩ = some c0) (hk : K (a.put op.dst c0)) : op.quiet Try.prog a C K :=
  quiet_mk (v := c0) (fun w hC => by unfold Oper.quietAt; rw [run_load_W _ op x b o c0 ho hx w (h w hC)]; exact ⟨rfl, rfl⟩) hk

end Hk

