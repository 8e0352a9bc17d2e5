/- Package span: the small functions return what the plain functions on spans say; old memory is as it was. No condition but those in each statement. Package span: Meet, without; the library's Add64; old memory is as it was. No condition but those in each statement. The library's Mul64, by the shelf's contract: it returns the product's halves. No condition. The reference of spans: the small functions; old memory is as it was. No condition but those in each statement. -/
import Derived.Test.YtjeanjbjngbfcaaProg
import Derived.Test.YtjeanjbjngbfcaaGp
import Derived.Test.YtjeanjbjngbfcaaGq
import Derived.Laws.Externs
import Derived.Shelf.Bits.Mul64
namespace Hk
open Go Go.RowKit Go.Proofs
set_option linter.unusedSimpArgs false
set_option linter.unusedVariables false
set_option maxRecDepth 100000
theorem sright_c (a : Sp) (w : World) : Calls Try.prog 46 #[.agg #[.int .u64 (N a.lo), .int .u64 (N a.hi)]] w fun e w' => e = .returned (.bool (a.right)) ∧ Below w.heap.size w w' := by
  go_enter Try.func46, Try.ntmps46
  go_wp2
  go_ret
  exact ⟨by simp [Sp.right], (by repeat' (first | (with_reducible exact Below.refl _ _) | (with_reducible assumption) | (with_reducible refine Below.alloc ?_ ?_ _) | (with_reducible refine Below.setCell ?_ ?_ _) | (with_reducible refine Below.drew ?_) | (with_reducible refine below_dn ?_ _) | (with_reducible refine Below.trans ?_ (Below.mono (by assumption) ?_)) | go_size))⟩

theorem sright_c' (x0 y0 : BitVec 64) (w : World) : Calls Try.prog 46 #[.agg #[.int .u64 (N x0), .int .u64 (N y0)]] w fun e w' => e = .returned (.bool (Sp.right (⟨x0, y0⟩ : Sp))) ∧ Below w.heap.size w w' := by
  exact sright_c (⟨x0, y0⟩ : Sp) w

theorem shas_c (a : Sp) (n : BitVec 64) (w : World) : Calls Try.prog 67 #[.agg #[.int .u64 (N a.lo), .int .u64 (N a.hi)], .int .u64 (N n)] w fun e w' => e = .returned (.bool (a.has n)) ∧ Below w.heap.size w w' := by
  cases h1 : decide (a.lo ≤ n) <;> cases h2 : decide (n ≤ a.hi)
  all_goals
    go_enter Try.func67, Try.ntmps67
    go_wp2
    go_ret
    exact ⟨by simp [Sp.has, *], (by repeat' (first | (with_reducible exact Below.refl _ _) | (with_reducible assumption) | (with_reducible refine Below.alloc ?_ ?_ _) | (with_reducible refine Below.setCell ?_ ?_ _) | (with_reducible refine Below.drew ?_) | (with_reducible refine below_dn ?_ _) | (with_reducible refine Below.trans ?_ (Below.mono (by assumption) ?_)) | go_size))⟩

theorem shas_c' (x0 y0 : BitVec 64) (x1 : BitVec 64) (w : World) : Calls Try.prog 67 #[.agg #[.int .u64 (N x0), .int .u64 (N y0)], .int .u64 (N x1)] w fun e w' => e = .returned (.bool (Sp.has (⟨x0, y0⟩ : Sp) x1)) ∧ Below w.heap.size w w' := by
  exact shas_c (⟨x0, y0⟩ : Sp) x1 w

theorem swithin_c (a b : Sp) (w : World) : Calls Try.prog 60 #[.agg #[.int .u64 (N a.lo), .int .u64 (N a.hi)], .agg #[.int .u64 (N b.lo), .int .u64 (N b.hi)]] w fun e w' => e = .returned (.bool (a.within b)) ∧ Below w.heap.size w w' := by
  cases ha : a.right <;> cases hb : b.right <;> cases h1 : b.has a.lo <;> cases h2 : b.has a.hi
  all_goals
    go_enter Try.func60, Try.ntmps60
    go_wp2_with (first | (go_at_call 46; (with_reducible refine (sright_c' _ _ _).mono ?_); rintro e w1 ⟨rfl, hb1⟩; obtain ⟨hc1, hf1, hz1⟩ := bcell hb1; (try simp only [World.size_alloc, World.size_setCell, World.size_drew] at hc1 hf1 hz1)) | (go_at_call 67; (with_reducible refine (shas_c' _ _ _ _).mono ?_); rintro e w1 ⟨rfl, hb1⟩; obtain ⟨hc1, hf1, hz1⟩ := bcell hb1; (try simp only [World.size_alloc, World.size_setCell, World.size_drew] at hc1 hf1 hz1)))
    go_ret
    exact ⟨by simp [Sp.within, *], (by repeat' (first | (with_reducible exact Below.refl _ _) | (with_reducible assumption) | (with_reducible refine Below.alloc ?_ ?_ _) | (with_reducible refine Below.setCell ?_ ?_ _) | (with_reducible refine Below.drew ?_) | (with_reducible refine below_dn ?_ _) | (with_reducible refine Below.trans ?_ (Below.mono (by assumption) ?_)) | go_size))⟩

theorem swithin_c' (x0 y0 : BitVec 64) (x1 y1 : BitVec 64) (w : World) : Calls Try.prog 60 #[.agg #[.int .u64 (N x0), .int .u64 (N y0)], .agg #[.int .u64 (N x1), .int .u64 (N y1)]] w fun e w' => e = .returned (.bool (Sp.within (⟨x0, y0⟩ : Sp) (⟨x1, y1⟩ : Sp))) ∧ Below w.heap.size w w' := by
  exact swithin_c (⟨x0, y0⟩ : Sp) (⟨x1, y1⟩ : Sp) w

end Hk

namespace Hk
open Go Go.RowKit Go.Proofs
set_option linter.unusedSimpArgs false
set_option linter.unusedVariables false
set_option maxRecDepth 100000
set_option maxHeartbeats 1000000 in
theorem smeet_c (a b : Sp) (w : World) : Calls Try.prog 47 #[.agg #[.int .u64 (N a.lo), .int .u64 (N a.hi)], .agg #[.int .u64 (N b.lo), .int .u64 (N b.hi)]] w fun e w' => e = .returned (.tuple #[.agg #[.int .u64 (N (Sp.meet a b).lo), .int .u64 (N (Sp.meet a b).hi)], .bool (Sp.meetOk a b)]) ∧ Below w.heap.size w w' := by
  cases ha : a.right <;> cases hb : b.right <;> cases hs : (Sp.both a b).right
  all_goals
    have hs' : Sp.right ⟨Sp.mx a.lo b.lo, Sp.mn a.hi b.hi⟩ = _ := hs
    go_enter Try.func47, Try.ntmps47
    go_wp2_with (first | (go_at_call 46; (with_reducible refine (sright_c' _ _ _).mono ?_); rintro e w1 ⟨rfl, hb1⟩; obtain ⟨hc1, hf1, hz1⟩ := bcell hb1; (try simp only [World.size_alloc, World.size_setCell, World.size_drew] at hc1 hf1 hz1)))
    refine bodyPost_ret (v := .tuple #[.agg #[.int .u64 (N (Sp.meet a b).lo), .int .u64 (N (Sp.meet a b).hi)], .bool (Sp.meetOk a b)]) ?_ rfl ⟨rfl, (by repeat' (first | (with_reducible exact Below.refl _ _) | (with_reducible assumption) | (with_reducible refine Below.alloc ?_ ?_ _) | (with_reducible refine Below.setCell ?_ ?_ _) | (with_reducible refine Below.drew ?_) | (with_reducible refine below_dn ?_ _) | (with_reducible refine Below.trans ?_ (Below.mono (by assumption) ?_)) | go_size))⟩
    simp only [results, Try.results47]; simp [*, go_sem, ↓IntWalk.iteOmega]; simp [Sp.meet, Sp.meetOk, ha, hb, hs, hs', Sp.both]; try (first | rfl | exact ⟨rfl, rfl⟩)

theorem smeet_c' (x0 y0 : BitVec 64) (x1 y1 : BitVec 64) (w : World) : Calls Try.prog 47 #[.agg #[.int .u64 (N x0), .int .u64 (N y0)], .agg #[.int .u64 (N x1), .int .u64 (N y1)]] w fun e w' => e = .returned (.tuple #[.agg #[.int .u64 (N (Sp.meet (⟨x0, y0⟩ : Sp) (⟨x1, y1⟩ : Sp)).lo), .int .u64 (N (Sp.meet (⟨x0, y0⟩ : Sp) (⟨x1, y1⟩ : Sp)).hi)], .bool (Sp.meetOk (⟨x0, y0⟩ : Sp) (⟨x1, y1⟩ : Sp))]) ∧ Below w.heap.size w w' := by
  exact smeet_c (⟨x0, y0⟩ : Sp) (⟨x1, y1⟩ : Sp) w

end Hk

namespace Hk
open Go Go.Shelf Go.Proofs
end Hk

namespace Hk
open Go Go.RowKit Go.Proofs
set_option linter.unusedSimpArgs false
set_option linter.unusedVariables false
set_option maxRecDepth 100000
theorem rsright_c (a : Sp) (w : World) : Calls Try.prog 54 #[.agg #[.int .u64 (N a.lo), .int .u64 (N a.hi)]] w fun e w' => e = .returned (.bool (a.right)) ∧ Below w.heap.size w w' := by
  go_enter Try.func54, Try.ntmps54
  go_wp2
  go_ret
  exact ⟨by simp [Sp.right], (by repeat' (first | (with_reducible exact Below.refl _ _) | (with_reducible assumption) | (with_reducible refine Below.alloc ?_ ?_ _) | (with_reducible refine Below.setCell ?_ ?_ _) | (with_reducible refine Below.drew ?_) | (with_reducible refine below_dn ?_ _) | (with_reducible refine Below.trans ?_ (Below.mono (by assumption) ?_)) | go_size))⟩

theorem rsright_c' (x0 y0 : BitVec 64) (w : World) : Calls Try.prog 54 #[.agg #[.int .u64 (N x0), .int .u64 (N y0)]] w fun e w' => e = .returned (.bool (Sp.right (⟨x0, y0⟩ : Sp))) ∧ Below w.heap.size w w' := by
  exact rsright_c (⟨x0, y0⟩ : Sp) w

theorem rsboth_c (a b : Sp) (w : World) : Calls Try.prog 69 #[.agg #[.int .u64 (N a.lo), .int .u64 (N a.hi)], .agg #[.int .u64 (N b.lo), .int .u64 (N b.hi)]] w fun e w' => e = .returned (.bool (a.right && b.right)) ∧ Below w.heap.size w w' := by
  cases ha : a.right
  all_goals
    go_enter Try.func69, Try.ntmps69
    go_wp2_with (first | (go_at_call 54; (with_reducible refine (rsright_c' _ _ _).mono ?_); rintro e w1 ⟨rfl, hb1⟩; obtain ⟨hc1, hf1, hz1⟩ := bcell hb1; (try simp only [World.size_alloc, World.size_setCell, World.size_drew] at hc1 hf1 hz1)))
    go_ret
    exact ⟨rfl, (by repeat' (first | (with_reducible exact Below.refl _ _) | (with_reducible assumption) | (with_reducible refine Below.alloc ?_ ?_ _) | (with_reducible refine Below.setCell ?_ ?_ _) | (with_reducible refine Below.drew ?_) | (with_reducible refine below_dn ?_ _) | (with_reducible refine Below.trans ?_ (Below.mono (by assumption) ?_)) | go_size))⟩

theorem rsboth_c' (x0 y0 : BitVec 64) (x1 y1 : BitVec 64) (w : World) : Calls Try.prog 69 #[.agg #[.int .u64 (N x0), .int .u64 (N y0)], .agg #[.int .u64 (N x1), .int .u64 (N y1)]] w fun e w' => e = .returned (.bool (Sp.right (⟨x0, y0⟩ : Sp) && Sp.right (⟨x1, y1⟩ : Sp))) ∧ Below w.heap.size w w' := by
  exact rsboth_c (⟨x0, y0⟩ : Sp) (⟨x1, y1⟩ : Sp) w

theorem rswithin_c (a b : Sp) (w : World) : Calls Try.prog 62 #[.agg #[.int .u64 (N a.lo), .int .u64 (N a.hi)], .agg #[.int .u64 (N b.lo), .int .u64 (N b.hi)]] w fun e w' => e = .returned (.bool (a.within b)) ∧ Below w.heap.size w w' := by
  cases ha : a.right <;> cases hb : b.right <;> cases h1 : decide (b.lo ≤ a.lo) <;> cases h2 : decide (a.hi ≤ b.hi)
  all_goals
    go_enter Try.func62, Try.ntmps62
    go_wp2_with (first | (go_at_call 69; (with_reducible refine (rsboth_c' _ _ _ _ _).mono ?_); rintro e w1 ⟨rfl, hb1⟩; obtain ⟨hc1, hf1, hz1⟩ := bcell hb1; (try simp only [World.size_alloc, World.size_setCell, World.size_drew] at hc1 hf1 hz1)))
    go_ret
    exact ⟨by rw [Sp.within_ref]; simp [*], (by repeat' (first | (with_reducible exact Below.refl _ _) | (with_reducible assumption) | (with_reducible refine Below.alloc ?_ ?_ _) | (with_reducible refine Below.setCell ?_ ?_ _) | (with_reducible refine Below.drew ?_) | (with_reducible refine below_dn ?_ _) | (with_reducible refine Below.trans ?_ (Below.mono (by assumption) ?_)) | go_size))⟩

theorem rswithin_c' (x0 y0 : BitVec 64) (x1 y1 : BitVec 64) (w : World) : Calls Try.prog 62 #[.agg #[.int .u64 (N x0), .int .u64 (N y0)], .agg #[.int .u64 (N x1), .int .u64 (N y1)]] w fun e w' => e = .returned (.bool (Sp.within (⟨x0, y0⟩ : Sp) (⟨x1, y1⟩ : Sp))) ∧ Below w.heap.size w w' := by
  exact rswithin_c (⟨x0, y0⟩ : Sp) (⟨x1, y1⟩ : Sp) w

set_option maxHeartbeats 1000000 in
theorem rsmeet_c (a b : Sp) (w : World) : Calls Try.prog 64 #[.agg #[.int .u64 (N a.lo), .int .u64 (N a.hi)], .agg #[.int .u64 (N b.lo), .int .u64 (N b.hi)]] w fun e w' => e = .returned (.tuple #[.agg #[.int .u64 (N (Sp.meet a b).lo), .int .u64 (N (Sp.meet a b).hi)], .bool (Sp.meetOk a b)]) ∧ Below w.heap.size w w' := by
  cases ha : a.right <;> cases hb : b.right <;> cases hs : (Sp.both a b).right
  all_goals
    have hs' : Sp.right ⟨Sp.mx a.lo b.lo, Sp.mn a.hi b.hi⟩ = _ := hs
    go_enter Try.func64, Try.ntmps64
    go_wp2_with (first | (go_at_call 69; (with_reducible refine (rsboth_c' _ _ _ _ _).mono ?_); rintro e w1 ⟨rfl, hb1⟩; obtain ⟨hc1, hf1, hz1⟩ := bcell hb1; (try simp only [World.size_alloc, World.size_setCell, World.size_drew] at hc1 hf1 hz1)) | (go_at_call 54; (with_reducible refine (rsright_c' _ _ _).mono ?_); rintro e w1 ⟨rfl, hb1⟩; obtain ⟨hc1, hf1, hz1⟩ := bcell hb1; (try simp only [World.size_alloc, World.size_setCell, World.size_drew] at hc1 hf1 hz1)))
    refine bodyPost_ret (v := .tuple #[.agg #[.int .u64 (N (Sp.meet a b).lo), .int .u64 (N (Sp.meet a b).hi)], .bool (Sp.meetOk a b)]) ?_ rfl ⟨rfl, (by repeat' (first | (with_reducible exact Below.refl _ _) | (with_reducible assumption) | (with_reducible refine Below.alloc ?_ ?_ _) | (with_reducible refine Below.setCell ?_ ?_ _) | (with_reducible refine Below.drew ?_) | (with_reducible refine below_dn ?_ _) | (with_reducible refine Below.trans ?_ (Below.mono (by assumption) ?_)) | go_size))⟩
    simp only [results, Try.results64]; simp [*, go_sem, ↓IntWalk.iteOmega]; simp [Sp.meet, Sp.meetOk, ha, hb, hs, hs', Sp.both]; try (first | rfl | exact ⟨rfl, rfl⟩)

theorem rsmeet_c' (x0 y0 : BitVec 64) (x1 y1 : BitVec 64) (w : World) : Calls Try.prog 64 #[.agg #[.int .u64 (N x0), .int .u64 (N y0)], .agg #[.int .u64 (N x1), .int .u64 (N y1)]] w fun e w' => e = .returned (.tuple #[.agg #[.int .u64 (N (Sp.meet (⟨x0, y0⟩ : Sp) (⟨x1, y1⟩ : Sp)).lo), .int .u64 (N (Sp.meet (⟨x0, y0⟩ : Sp) (⟨x1, y1⟩ : Sp)).hi)], .bool (Sp.meetOk (⟨x0, y0⟩ : Sp) (⟨x1, y1⟩ : Sp))]) ∧ Below w.heap.size w w' := by
  exact rsmeet_c (⟨x0, y0⟩ : Sp) (⟨x1, y1⟩ : Sp) w

end Hk

