/- Package span: the small functions return what the plain functions on spans say; old memory is as it was. No condition but those in each statement. Package span: Meet, without; the library's Add64; old memory is as it was. No condition but those in each statement. The library's Mul64, by the shelf's contract: it returns the product's halves. No condition. The reference of spans: the small functions; old memory is as it was. No condition but those in each statement. -/
import Derived.Test.YtmhkngblpojeaaaProg
import Derived.Test.YtmhkngblpojeaaaGp
import Derived.Test.YtmhkngblpojeaaaGq
import Derived.Laws.Externs
import Derived.Shelf.Bits.Mul64
namespace Hk
open Go Go.RowKit Go.Proofs
set_option linter.unusedSimpArgs false
set_option linter.unusedVariables false
set_option maxRecDepth 100000
theorem sright_c (a : Sp) (w : World) : Calls Try.prog 50 #[.agg #[.int .u64 (N a.lo), .int .u64 (N a.hi)]] w fun e w' => e = .returned (.bool (a.right)) ∧ Below w.heap.size w w' := by
  go_enter Try.func50, Try.ntmps50
  go_wp2
  go_ret
  exact ⟨by simp [Sp.right], (by repeat' (first | (with_reducible exact Below.refl _ _) | (with_reducible assumption) | (with_reducible refine Below.alloc ?_ ?_ _) | (with_reducible refine Below.setCell ?_ ?_ _) | (with_reducible refine Below.drew ?_) | (with_reducible refine below_dn ?_ _) | (with_reducible refine Below.trans ?_ (Below.mono (by assumption) ?_)) | go_size))⟩

theorem sright_c' (x0 y0 : BitVec 64) (w : World) : Calls Try.prog 50 #[.agg #[.int .u64 (N x0), .int .u64 (N y0)]] w fun e w' => e = .returned (.bool (Sp.right (⟨x0, y0⟩ : Sp))) ∧ Below w.heap.size w w' := by
  exact sright_c (⟨x0, y0⟩ : Sp) w

theorem sall_c  (w : World) : Calls Try.prog 54 #[] w fun e w' => e = .returned (.agg #[.int .u64 (N Sp.all.lo), .int .u64 (N Sp.all.hi)]) ∧ Below w.heap.size w w' := by
  go_enter Try.func54, Try.ntmps54
  go_wp2
  refine bodyPost_ret (v := .agg #[.int .u64 (N Sp.all.lo), .int .u64 (N Sp.all.hi)]) ?_ rfl ⟨?_, (by repeat' (first | (with_reducible exact Below.refl _ _) | (with_reducible assumption) | (with_reducible refine Below.alloc ?_ ?_ _) | (with_reducible refine Below.setCell ?_ ?_ _) | (with_reducible refine Below.drew ?_) | (with_reducible refine below_dn ?_ _) | (with_reducible refine Below.trans ?_ (Below.mono (by assumption) ?_)) | go_size))⟩
  · simp only [results, Try.results54]; simp [*, go_sem, ↓IntWalk.iteOmega]; try (first | rfl | exact ⟨rfl, rfl⟩)
  · rfl

theorem shas_c (a : Sp) (n : BitVec 64) (w : World) : Calls Try.prog 57 #[.agg #[.int .u64 (N a.lo), .int .u64 (N a.hi)], .int .u64 (N n)] w fun e w' => e = .returned (.bool (a.has n)) ∧ Below w.heap.size w w' := by
  cases h1 : decide (a.lo ≤ n) <;> cases h2 : decide (n ≤ a.hi)
  all_goals
    go_enter Try.func57, Try.ntmps57
    go_wp2
    go_ret
    exact ⟨by simp [Sp.has, *], (by repeat' (first | (with_reducible exact Below.refl _ _) | (with_reducible assumption) | (with_reducible refine Below.alloc ?_ ?_ _) | (with_reducible refine Below.setCell ?_ ?_ _) | (with_reducible refine Below.drew ?_) | (with_reducible refine below_dn ?_ _) | (with_reducible refine Below.trans ?_ (Below.mono (by assumption) ?_)) | go_size))⟩

theorem shas_c' (x0 y0 : BitVec 64) (x1 : BitVec 64) (w : World) : Calls Try.prog 57 #[.agg #[.int .u64 (N x0), .int .u64 (N y0)], .int .u64 (N x1)] w fun e w' => e = .returned (.bool (Sp.has (⟨x0, y0⟩ : Sp) x1)) ∧ Below w.heap.size w w' := by
  exact shas_c (⟨x0, y0⟩ : Sp) x1 w

theorem swithin_c (a b : Sp) (w : World) : Calls Try.prog 64 #[.agg #[.int .u64 (N a.lo), .int .u64 (N a.hi)], .agg #[.int .u64 (N b.lo), .int .u64 (N b.hi)]] w fun e w' => e = .returned (.bool (a.within b)) ∧ Below w.heap.size w w' := by
  cases ha : a.right <;> cases hb : b.right <;> cases h1 : b.has a.lo <;> cases h2 : b.has a.hi
  all_goals
    go_enter Try.func64, Try.ntmps64
    go_wp2_with (first | (go_at_call 50; (with_reducible refine (sright_c' _ _ _).mono ?_); rintro e w1 ⟨rfl, hb1⟩; obtain ⟨hc1, hf1, hz1⟩ := bcell hb1; (try simp only [World.size_alloc, World.size_setCell, World.size_drew] at hc1 hf1 hz1)) | (go_at_call 57; (with_reducible refine (shas_c' _ _ _ _).mono ?_); rintro e w1 ⟨rfl, hb1⟩; obtain ⟨hc1, hf1, hz1⟩ := bcell hb1; (try simp only [World.size_alloc, World.size_setCell, World.size_drew] at hc1 hf1 hz1)))
    go_ret
    exact ⟨by simp [Sp.within, *], (by repeat' (first | (with_reducible exact Below.refl _ _) | (with_reducible assumption) | (with_reducible refine Below.alloc ?_ ?_ _) | (with_reducible refine Below.setCell ?_ ?_ _) | (with_reducible refine Below.drew ?_) | (with_reducible refine below_dn ?_ _) | (with_reducible refine Below.trans ?_ (Below.mono (by assumption) ?_)) | go_size))⟩

theorem swithin_c' (x0 y0 : BitVec 64) (x1 y1 : BitVec 64) (w : World) : Calls Try.prog 64 #[.agg #[.int .u64 (N x0), .int .u64 (N y0)], .agg #[.int .u64 (N x1), .int .u64 (N y1)]] w fun e w' => e = .returned (.bool (Sp.within (⟨x0, y0⟩ : Sp) (⟨x1, y1⟩ : Sp))) ∧ Below w.heap.size w w' := by
  exact swithin_c (⟨x0, y0⟩ : Sp) (⟨x1, y1⟩ : Sp) w

theorem sjoin_c (a b : Sp) (w : World) : Calls Try.prog 69 #[.agg #[.int .u64 (N a.lo), .int .u64 (N a.hi)], .agg #[.int .u64 (N b.lo), .int .u64 (N b.hi)]] w fun e w' => e = .returned (.agg #[.int .u64 (N (Sp.join a b).lo), .int .u64 (N (Sp.join a b).hi)]) ∧ Below w.heap.size w w' := by
  cases ha : a.right <;> cases hb : b.right
  all_goals
    go_enter Try.func69, Try.ntmps69
    go_wp2_with (first | (go_at_call 50; (with_reducible refine (sright_c' _ _ _).mono ?_); rintro e w1 ⟨rfl, hb1⟩; obtain ⟨hc1, hf1, hz1⟩ := bcell hb1; (try simp only [World.size_alloc, World.size_setCell, World.size_drew] at hc1 hf1 hz1)))
    refine bodyPost_ret (v := .agg #[.int .u64 (N (Sp.join a b).lo), .int .u64 (N (Sp.join a b).hi)]) ?_ rfl ⟨?_, (by repeat' (first | (with_reducible exact Below.refl _ _) | (with_reducible assumption) | (with_reducible refine Below.alloc ?_ ?_ _) | (with_reducible refine Below.setCell ?_ ?_ _) | (with_reducible refine Below.drew ?_) | (with_reducible refine below_dn ?_ _) | (with_reducible refine Below.trans ?_ (Below.mono (by assumption) ?_)) | go_size))⟩
    · simp only [results, Try.results69]; simp [*, go_sem, ↓IntWalk.iteOmega]; simp [Sp.join, ha, hb]; try (first | rfl | exact ⟨rfl, rfl⟩)
    · rfl

theorem sjoin_c' (x0 y0 : BitVec 64) (x1 y1 : BitVec 64) (w : World) : Calls Try.prog 69 #[.agg #[.int .u64 (N x0), .int .u64 (N y0)], .agg #[.int .u64 (N x1), .int .u64 (N y1)]] w fun e w' => e = .returned (.agg #[.int .u64 (N (Sp.join (⟨x0, y0⟩ : Sp) (⟨x1, y1⟩ : Sp)).lo), .int .u64 (N (Sp.join (⟨x0, y0⟩ : Sp) (⟨x1, y1⟩ : Sp)).hi)]) ∧ Below w.heap.size w w' := by
  exact sjoin_c (⟨x0, y0⟩ : Sp) (⟨x1, y1⟩ : Sp) w

end Hk

namespace Hk
open Go Go.RowKit Go.Proofs
set_option linter.unusedSimpArgs false
set_option linter.unusedVariables false
set_option maxRecDepth 100000
set_option maxHeartbeats 1000000 in
theorem smeet_c (a b : Sp) (w : World) : Calls Try.prog 51 #[.agg #[.int .u64 (N a.lo), .int .u64 (N a.hi)], .agg #[.int .u64 (N b.lo), .int .u64 (N b.hi)]] w fun e w' => e = .returned (.tuple #[.agg #[.int .u64 (N (Sp.meet a b).lo), .int .u64 (N (Sp.meet a b).hi)], .bool (Sp.meetOk a b)]) ∧ Below w.heap.size w w' := by
  cases ha : a.right <;> cases hb : b.right <;> cases hs : (Sp.both a b).right
  all_goals
    have hs' : Sp.right ⟨Sp.mx a.lo b.lo, Sp.mn a.hi b.hi⟩ = _ := hs
    go_enter Try.func51, Try.ntmps51
    go_wp2_with (first | (go_at_call 50; (with_reducible refine (sright_c' _ _ _).mono ?_); rintro e w1 ⟨rfl, hb1⟩; obtain ⟨hc1, hf1, hz1⟩ := bcell hb1; (try simp only [World.size_alloc, World.size_setCell, World.size_drew] at hc1 hf1 hz1)))
    refine bodyPost_ret (v := .tuple #[.agg #[.int .u64 (N (Sp.meet a b).lo), .int .u64 (N (Sp.meet a b).hi)], .bool (Sp.meetOk a b)]) ?_ rfl ⟨rfl, (by repeat' (first | (with_reducible exact Below.refl _ _) | (with_reducible assumption) | (with_reducible refine Below.alloc ?_ ?_ _) | (with_reducible refine Below.setCell ?_ ?_ _) | (with_reducible refine Below.drew ?_) | (with_reducible refine below_dn ?_ _) | (with_reducible refine Below.trans ?_ (Below.mono (by assumption) ?_)) | go_size))⟩
    simp only [results, Try.results51]; simp [*, go_sem, ↓IntWalk.iteOmega]; simp [Sp.meet, Sp.meetOk, ha, hb, hs, hs', Sp.both]; try (first | rfl | exact ⟨rfl, rfl⟩)

theorem smeet_c' (x0 y0 : BitVec 64) (x1 y1 : BitVec 64) (w : World) : Calls Try.prog 51 #[.agg #[.int .u64 (N x0), .int .u64 (N y0)], .agg #[.int .u64 (N x1), .int .u64 (N y1)]] w fun e w' => e = .returned (.tuple #[.agg #[.int .u64 (N (Sp.meet (⟨x0, y0⟩ : Sp) (⟨x1, y1⟩ : Sp)).lo), .int .u64 (N (Sp.meet (⟨x0, y0⟩ : Sp) (⟨x1, y1⟩ : Sp)).hi)], .bool (Sp.meetOk (⟨x0, y0⟩ : Sp) (⟨x1, y1⟩ : Sp))]) ∧ Below w.heap.size w w' := by
  exact smeet_c (⟨x0, y0⟩ : Sp) (⟨x1, y1⟩ : Sp) w

theorem swithout_c (a : Sp) (n : BitVec 64) (w : World) : Calls Try.prog 117 #[.agg #[.int .u64 (N a.lo), .int .u64 (N a.hi)], .int .u64 (N n)] w fun e w' => e = .returned (.tuple #[.agg #[.int .u64 (N ((Sp.without a n).getD ⟨0, 0⟩).lo), .int .u64 (N ((Sp.without a n).getD ⟨0, 0⟩).hi)], .bool (Sp.without a n).isSome]) ∧ Below w.heap.size w w' := by
  cases h1 : (a.lo == n) <;> cases h2 : (a.hi == n)
  all_goals
    first | (rw [Sp.wo_none h1 h2]) | (rw [Sp.wo_lo h1 h2]) | (rw [Sp.wo_hi h1 h2]) | (rw [Sp.wo_same h1 h2])
    go_enter Try.func117, Try.ntmps117
    go_wp2
    refine bodyPost_ret ?_ rfl ⟨rfl, (by repeat' (first | (with_reducible exact Below.refl _ _) | (with_reducible assumption) | (with_reducible refine Below.alloc ?_ ?_ _) | (with_reducible refine Below.setCell ?_ ?_ _) | (with_reducible refine Below.drew ?_) | (with_reducible refine below_dn ?_ _) | (with_reducible refine Below.trans ?_ (Below.mono (by assumption) ?_)) | go_size))⟩
    simp only [results, Try.results117]; simp [*, go_sem, ↓IntWalk.iteOmega]; try (first | rfl | exact ⟨rfl, rfl⟩)

theorem swithout_c' (x0 y0 : BitVec 64) (x1 : BitVec 64) (w : World) : Calls Try.prog 117 #[.agg #[.int .u64 (N x0), .int .u64 (N y0)], .int .u64 (N x1)] w fun e w' => e = .returned (.tuple #[.agg #[.int .u64 (N ((Sp.without (⟨x0, y0⟩ : Sp) x1).getD ⟨0, 0⟩).lo), .int .u64 (N ((Sp.without (⟨x0, y0⟩ : Sp) x1).getD ⟨0, 0⟩).hi)], .bool (Sp.without (⟨x0, y0⟩ : Sp) x1).isSome]) ∧ Below w.heap.size w w' := by
  exact swithout_c (⟨x0, y0⟩ : Sp) x1 w

theorem add64_run (x y : BitVec 64) (w : World) : (callFunc 109 #[.int .u64 (N x), .int .u64 (N y), .int .u64 0]).run Try.prog w = .ok (.value (.tuple #[.int .u64 (N (x + y)), .int .u64 (N (Sp.over x y))])) w := by
  rw [run_callFunc_extern Try.func109 (by kernel_rfl) (by kernel_rfl) (by kernel_rfl) (e := add64Entry) (by kernel_rfl), run_add64 _ _ _ (N_nonneg x) (N_nonneg y) (by omega) (by omega)]
  have e1 : (N x + N y + 0) % 18446744073709551616 = N (x + y) := by
    unfold N; rw [BitVec.toNat_add]; omega
  have e2 : (N x + N y + 0) / 18446744073709551616 = N (Sp.over x y) := by
    have := x.isLt; have := y.isLt
    unfold N Sp.over; split
    · show _ = (0 : Int); omega
    · show _ = (1 : Int); omega
  rw [e1, e2]
  rfl
@[go_sem ↓ high] theorem add64_run' (x y : BitVec 64) (w : World) : (callFunc 109 #[.int .u64 (N x), .int .u64 (N y), .int .u64 (N 0#64)]).run Try.prog w = .ok (.value (.tuple #[.int .u64 (N (x + y)), .int .u64 (N (Sp.over x y))])) w := add64_run x y w
attribute [go_sem ↓ high] add64_run

end Hk

namespace Hk
open Go Go.Shelf Go.Proofs
def mul_ren : Go.Shelf.Ren := ⟨fun | 264 => 110 | n => n, fun | 53 => 23 | 46 => 113 | n => n, fun | n => n⟩
theorem mul_lays : Go.Proofs.Lays.n264 Try.prog mul_ren := {
  mixed := by kernel_rfl
  f264 := Try.func110.trans (congrArg some (by kernel_rfl))
  t46 := Try.underlying113
  a46 := Try.isAgg113
  z46 := Try.sizeOf113
  v46 := Try.zeroValue113
  t53 := Try.underlying23
  a53 := Try.isAgg23
  z53 := Try.sizeOf23
  v53 := Try.zeroValue23 }
theorem mul64_c (x y : BitVec 64) (w : World) : Calls Try.prog 110 #[.int .u64 (N x), .int .u64 (N y)] w fun e w' => e = .returned (.tuple #[.int .u64 (N (Sp.mulHi x y)), .int .u64 (N (x * y))]) ∧ w = w' := by
  have h := Any.bits_Mul64 mul_lays x.toNat y.toNat x.isLt y.isLt w
  refine h.mono fun e w' ⟨h1, h2⟩ => ⟨?_, h2.symm⟩
  rw [h1, ← Sp.mulHi_nat, ← Sp.mul_nat]
  rfl
end Hk

namespace Hk
open Go Go.RowKit Go.Proofs
set_option linter.unusedSimpArgs false
set_option linter.unusedVariables false
set_option maxRecDepth 100000
theorem rsright_c (a : Sp) (w : World) : Calls Try.prog 39 #[.agg #[.int .u64 (N a.lo), .int .u64 (N a.hi)]] w fun e w' => e = .returned (.bool (a.right)) ∧ Below w.heap.size w w' := by
  go_enter Try.func39, Try.ntmps39
  go_wp2
  go_ret
  exact ⟨by simp [Sp.right], (by repeat' (first | (with_reducible exact Below.refl _ _) | (with_reducible assumption) | (with_reducible refine Below.alloc ?_ ?_ _) | (with_reducible refine Below.setCell ?_ ?_ _) | (with_reducible refine Below.drew ?_) | (with_reducible refine below_dn ?_ _) | (with_reducible refine Below.trans ?_ (Below.mono (by assumption) ?_)) | go_size))⟩

theorem rsright_c' (x0 y0 : BitVec 64) (w : World) : Calls Try.prog 39 #[.agg #[.int .u64 (N x0), .int .u64 (N y0)]] w fun e w' => e = .returned (.bool (Sp.right (⟨x0, y0⟩ : Sp))) ∧ Below w.heap.size w w' := by
  exact rsright_c (⟨x0, y0⟩ : Sp) w

theorem rsboth_c (a b : Sp) (w : World) : Calls Try.prog 96 #[.agg #[.int .u64 (N a.lo), .int .u64 (N a.hi)], .agg #[.int .u64 (N b.lo), .int .u64 (N b.hi)]] w fun e w' => e = .returned (.bool (a.right && b.right)) ∧ Below w.heap.size w w' := by
  cases ha : a.right
  all_goals
    go_enter Try.func96, Try.ntmps96
    go_wp2_with (first | (go_at_call 39; (with_reducible refine (rsright_c' _ _ _).mono ?_); rintro e w1 ⟨rfl, hb1⟩; obtain ⟨hc1, hf1, hz1⟩ := bcell hb1; (try simp only [World.size_alloc, World.size_setCell, World.size_drew] at hc1 hf1 hz1)))
    go_ret
    exact ⟨rfl, (by repeat' (first | (with_reducible exact Below.refl _ _) | (with_reducible assumption) | (with_reducible refine Below.alloc ?_ ?_ _) | (with_reducible refine Below.setCell ?_ ?_ _) | (with_reducible refine Below.drew ?_) | (with_reducible refine below_dn ?_ _) | (with_reducible refine Below.trans ?_ (Below.mono (by assumption) ?_)) | go_size))⟩

theorem rsboth_c' (x0 y0 : BitVec 64) (x1 y1 : BitVec 64) (w : World) : Calls Try.prog 96 #[.agg #[.int .u64 (N x0), .int .u64 (N y0)], .agg #[.int .u64 (N x1), .int .u64 (N y1)]] w fun e w' => e = .returned (.bool (Sp.right (⟨x0, y0⟩ : Sp) && Sp.right (⟨x1, y1⟩ : Sp))) ∧ Below w.heap.size w w' := by
  exact rsboth_c (⟨x0, y0⟩ : Sp) (⟨x1, y1⟩ : Sp) w

theorem rsall_c  (w : World) : Calls Try.prog 55 #[] w fun e w' => e = .returned (.agg #[.int .u64 (N Sp.all.lo), .int .u64 (N Sp.all.hi)]) ∧ Below w.heap.size w w' := by
  go_enter Try.func55, Try.ntmps55
  go_wp2
  refine bodyPost_ret (v := .agg #[.int .u64 (N Sp.all.lo), .int .u64 (N Sp.all.hi)]) ?_ rfl ⟨?_, (by repeat' (first | (with_reducible exact Below.refl _ _) | (with_reducible assumption) | (with_reducible refine Below.alloc ?_ ?_ _) | (with_reducible refine Below.setCell ?_ ?_ _) | (with_reducible refine Below.drew ?_) | (with_reducible refine below_dn ?_ _) | (with_reducible refine Below.trans ?_ (Below.mono (by assumption) ?_)) | go_size))⟩
  · simp only [results, Try.results55]; simp [*, go_sem, ↓IntWalk.iteOmega]; try (first | rfl | exact ⟨rfl, rfl⟩)
  · rfl

theorem rshas_c (a : Sp) (n : BitVec 64) (w : World) : Calls Try.prog 59 #[.agg #[.int .u64 (N a.lo), .int .u64 (N a.hi)], .int .u64 (N n)] w fun e w' => e = .returned (.bool (a.has n)) ∧ Below w.heap.size w w' := by
  cases h1 : decide (a.lo ≤ n) <;> cases h2 : decide (n ≤ a.hi)
  all_goals
    go_enter Try.func59, Try.ntmps59
    go_wp2
    go_ret
    exact ⟨by simp [Sp.has, *], (by repeat' (first | (with_reducible exact Below.refl _ _) | (with_reducible assumption) | (with_reducible refine Below.alloc ?_ ?_ _) | (with_reducible refine Below.setCell ?_ ?_ _) | (with_reducible refine Below.drew ?_) | (with_reducible refine below_dn ?_ _) | (with_reducible refine Below.trans ?_ (Below.mono (by assumption) ?_)) | go_size))⟩

theorem rshas_c' (x0 y0 : BitVec 64) (x1 : BitVec 64) (w : World) : Calls Try.prog 59 #[.agg #[.int .u64 (N x0), .int .u64 (N y0)], .int .u64 (N x1)] w fun e w' => e = .returned (.bool (Sp.has (⟨x0, y0⟩ : Sp) x1)) ∧ Below w.heap.size w w' := by
  exact rshas_c (⟨x0, y0⟩ : Sp) x1 w

theorem rswithin_c (a b : Sp) (w : World) : Calls Try.prog 66 #[.agg #[.int .u64 (N a.lo), .int .u64 (N a.hi)], .agg #[.int .u64 (N b.lo), .int .u64 (N b.hi)]] w fun e w' => e = .returned (.bool (a.within b)) ∧ Below w.heap.size w w' := by
  cases ha : a.right <;> cases hb : b.right <;> cases h1 : decide (b.lo ≤ a.lo) <;> cases h2 : decide (a.hi ≤ b.hi)
  all_goals
    go_enter Try.func66, Try.ntmps66
    go_wp2_with (first | (go_at_call 96; (with_reducible refine (rsboth_c' _ _ _ _ _).mono ?_); rintro e w1 ⟨rfl, hb1⟩; obtain ⟨hc1, hf1, hz1⟩ := bcell hb1; (try simp only [World.size_alloc, World.size_setCell, World.size_drew] at hc1 hf1 hz1)))
    go_ret
    exact ⟨by rw [Sp.within_ref]; simp [*], (by repeat' (first | (with_reducible exact Below.refl _ _) | (with_reducible assumption) | (with_reducible refine Below.alloc ?_ ?_ _) | (with_reducible refine Below.setCell ?_ ?_ _) | (with_reducible refine Below.drew ?_) | (with_reducible refine below_dn ?_ _) | (with_reducible refine Below.trans ?_ (Below.mono (by assumption) ?_)) | go_size))⟩

theorem rswithin_c' (x0 y0 : BitVec 64) (x1 y1 : BitVec 64) (w : World) : Calls Try.prog 66 #[.agg #[.int .u64 (N x0), .int .u64 (N y0)], .agg #[.int .u64 (N x1), .int .u64 (N y1)]] w fun e w' => e = .returned (.bool (Sp.within (⟨x0, y0⟩ : Sp) (⟨x1, y1⟩ : Sp))) ∧ Below w.heap.size w w' := by
  exact rswithin_c (⟨x0, y0⟩ : Sp) (⟨x1, y1⟩ : Sp) w

theorem rsjoin_c (a b : Sp) (w : World) : Calls Try.prog 62 #[.agg #[.int .u64 (N a.lo), .int .u64 (N a.hi)], .agg #[.int .u64 (N b.lo), .int .u64 (N b.hi)]] w fun e w' => e = .returned (.agg #[.int .u64 (N (Sp.join a b).lo), .int .u64 (N (Sp.join a b).hi)]) ∧ Below w.heap.size w w' := by
  cases ha : a.right <;> cases hb : b.right
  all_goals
    go_enter Try.func62, Try.ntmps62
    go_wp2_with (first | (go_at_call 96; (with_reducible refine (rsboth_c' _ _ _ _ _).mono ?_); rintro e w1 ⟨rfl, hb1⟩; obtain ⟨hc1, hf1, hz1⟩ := bcell hb1; (try simp only [World.size_alloc, World.size_setCell, World.size_drew] at hc1 hf1 hz1)))
    refine bodyPost_ret (v := .agg #[.int .u64 (N (Sp.join a b).lo), .int .u64 (N (Sp.join a b).hi)]) ?_ rfl ⟨?_, (by repeat' (first | (with_reducible exact Below.refl _ _) | (with_reducible assumption) | (with_reducible refine Below.alloc ?_ ?_ _) | (with_reducible refine Below.setCell ?_ ?_ _) | (with_reducible refine Below.drew ?_) | (with_reducible refine below_dn ?_ _) | (with_reducible refine Below.trans ?_ (Below.mono (by assumption) ?_)) | go_size))⟩
    · simp only [results, Try.results62]; simp [*, go_sem, ↓IntWalk.iteOmega]; simp [Sp.join, ha, hb]; try (first | rfl | exact ⟨rfl, rfl⟩)
    · rfl

theorem rsjoin_c' (x0 y0 : BitVec 64) (x1 y1 : BitVec 64) (w : World) : Calls Try.prog 62 #[.agg #[.int .u64 (N x0), .int .u64 (N y0)], .agg #[.int .u64 (N x1), .int .u64 (N y1)]] w fun e w' => e = .returned (.agg #[.int .u64 (N (Sp.join (⟨x0, y0⟩ : Sp) (⟨x1, y1⟩ : Sp)).lo), .int .u64 (N (Sp.join (⟨x0, y0⟩ : Sp) (⟨x1, y1⟩ : Sp)).hi)]) ∧ Below w.heap.size w w' := by
  exact rsjoin_c (⟨x0, y0⟩ : Sp) (⟨x1, y1⟩ : Sp) w

set_option maxHeartbeats 1000000 in
theorem rsmeet_c (a b : Sp) (w : World) : Calls Try.prog 79 #[.agg #[.int .u64 (N a.lo), .int .u64 (N a.hi)], .agg #[.int .u64 (N b.lo), .int .u64 (N b.hi)]] w fun e w' => e = .returned (.tuple #[.agg #[.int .u64 (N (Sp.meet a b).lo), .int .u64 (N (Sp.meet a b).hi)], .bool (Sp.meetOk a b)]) ∧ Below w.heap.size w w' := by
  cases ha : a.right <;> cases hb : b.right <;> cases hs : (Sp.both a b).right
  all_goals
    have hs' : Sp.right ⟨Sp.mx a.lo b.lo, Sp.mn a.hi b.hi⟩ = _ := hs
    go_enter Try.func79, Try.ntmps79
    go_wp2_with (first | (go_at_call 96; (with_reducible refine (rsboth_c' _ _ _ _ _).mono ?_); rintro e w1 ⟨rfl, hb1⟩; obtain ⟨hc1, hf1, hz1⟩ := bcell hb1; (try simp only [World.size_alloc, World.size_setCell, World.size_drew] at hc1 hf1 hz1)) | (go_at_call 39; (with_reducible refine (rsright_c' _ _ _).mono ?_); rintro e w1 ⟨rfl, hb1⟩; obtain ⟨hc1, hf1, hz1⟩ := bcell hb1; (try simp only [World.size_alloc, World.size_setCell, World.size_drew] at hc1 hf1 hz1)))
    refine bodyPost_ret (v := .tuple #[.agg #[.int .u64 (N (Sp.meet a b).lo), .int .u64 (N (Sp.meet a b).hi)], .bool (Sp.meetOk a b)]) ?_ rfl ⟨rfl, (by repeat' (first | (with_reducible exact Below.refl _ _) | (with_reducible assumption) | (with_reducible refine Below.alloc ?_ ?_ _) | (with_reducible refine Below.setCell ?_ ?_ _) | (with_reducible refine Below.drew ?_) | (with_reducible refine below_dn ?_ _) | (with_reducible refine Below.trans ?_ (Below.mono (by assumption) ?_)) | go_size))⟩
    simp only [results, Try.results79]; simp [*, go_sem, ↓IntWalk.iteOmega]; simp [Sp.meet, Sp.meetOk, ha, hb, hs, hs', Sp.both]; try (first | rfl | exact ⟨rfl, rfl⟩)

theorem rsmeet_c' (x0 y0 : BitVec 64) (x1 y1 : BitVec 64) (w : World) : Calls Try.prog 79 #[.agg #[.int .u64 (N x0), .int .u64 (N y0)], .agg #[.int .u64 (N x1), .int .u64 (N y1)]] w fun e w' => e = .returned (.tuple #[.agg #[.int .u64 (N (Sp.meet (⟨x0, y0⟩ : Sp) (⟨x1, y1⟩ : Sp)).lo), .int .u64 (N (Sp.meet (⟨x0, y0⟩ : Sp) (⟨x1, y1⟩ : Sp)).hi)], .bool (Sp.meetOk (⟨x0, y0⟩ : Sp) (⟨x1, y1⟩ : Sp))]) ∧ Below w.heap.size w w' := by
  exact rsmeet_c (⟨x0, y0⟩ : Sp) (⟨x1, y1⟩ : Sp) w

end Hk

