/- Package span: Meet, without; the library's Add64; old memory is as it was. No condition but those in each statement. -/
import Derived.Test.YtkpmhnfgldchaaaProg
import Derived.Test.YtkpmhnfgldchaaaWd
import Derived.Test.YtkpmhnfgldchaaaSpDo
import Derived.Test.YtkpmhnfgldchaaaSp1
import Derived.Laws.Externs
namespace Hk
open Go Go.RowKit Go.Proofs
set_option linter.unusedSimpArgs false
set_option linter.unusedVariables false
set_option maxRecDepth 100000
set_option maxHeartbeats 1000000 in
theorem smeet_c (a b : Sp) (w : World) : Calls Try.prog 17 #[.agg #[.int .u64 (N a.lo), .int .u64 (N a.hi)], .agg #[.int .u64 (N b.lo), .int .u64 (N b.hi)]] w fun e w' => e = .returned (.tuple #[.agg #[.int .u64 (N (Sp.meet a b).lo), .int .u64 (N (Sp.meet a b).hi)], .bool (Sp.meetOk a b)]) ∧ Below w.heap.size w w' := by
  cases ha : a.right <;> cases hb : b.right <;> cases hs : (Sp.both a b).right
  all_goals
    have hs' : Sp.right ⟨Sp.mx a.lo b.lo, Sp.mn a.hi b.hi⟩ = _ := hs
    go_enter Try.func17, Try.ntmps17
    go_wp2_with (first | (go_at_call 19; (with_reducible refine (sright_c' _ _ _).mono ?_); rintro e w1 ⟨rfl, hb1⟩; obtain ⟨hc1, hf1, hz1⟩ := bcell hb1; (try simp only [World.size_alloc, World.size_setCell, World.size_drew] at hc1 hf1 hz1)))
    refine bodyPost_ret (v := .tuple #[.agg #[.int .u64 (N (Sp.meet a b).lo), .int .u64 (N (Sp.meet a b).hi)], .bool (Sp.meetOk a b)]) ?_ rfl ⟨rfl, (by repeat' (first | (with_reducible exact Below.refl _ _) | (with_reducible assumption) | (with_reducible refine Below.alloc ?_ ?_ _) | (with_reducible refine Below.setCell ?_ ?_ _) | (with_reducible refine Below.drew ?_) | (with_reducible refine below_dn ?_ _) | (with_reducible refine Below.trans ?_ (Below.mono (by assumption) ?_)) | go_size))⟩
    simp only [results, Try.results17]; simp [*, go_sem, ↓IntWalk.iteOmega]; simp [Sp.meet, Sp.meetOk, ha, hb, hs, hs', Sp.both]; try (first | rfl | exact ⟨rfl, rfl⟩)

theorem smeet_c' (x0 y0 : BitVec 64) (x1 y1 : BitVec 64) (w : World) : Calls Try.prog 17 #[.agg #[.int .u64 (N x0), .int .u64 (N y0)], .agg #[.int .u64 (N x1), .int .u64 (N y1)]] w fun e w' => e = .returned (.tuple #[.agg #[.int .u64 (N (Sp.meet (⟨x0, y0⟩ : Sp) (⟨x1, y1⟩ : Sp)).lo), .int .u64 (N (Sp.meet (⟨x0, y0⟩ : Sp) (⟨x1, y1⟩ : Sp)).hi)], .bool (Sp.meetOk (⟨x0, y0⟩ : Sp) (⟨x1, y1⟩ : Sp))]) ∧ Below w.heap.size w w' := by
  exact smeet_c (⟨x0, y0⟩ : Sp) (⟨x1, y1⟩ : Sp) w

theorem swithout_c (a : Sp) (n : BitVec 64) (w : World) : Calls Try.prog 34 #[.agg #[.int .u64 (N a.lo), .int .u64 (N a.hi)], .int .u64 (N n)] w fun e w' => e = .returned (.tuple #[.agg #[.int .u64 (N ((Sp.without a n).getD ⟨0, 0⟩).lo), .int .u64 (N ((Sp.without a n).getD ⟨0, 0⟩).hi)], .bool (Sp.without a n).isSome]) ∧ Below w.heap.size w w' := by
  cases h1 : (a.lo == n) <;> cases h2 : (a.hi == n)
  all_goals
    first | (rw [Sp.wo_none h1 h2]) | (rw [Sp.wo_lo h1 h2]) | (rw [Sp.wo_hi h1 h2]) | (rw [Sp.wo_same h1 h2])
    go_enter Try.func34, Try.ntmps34
    go_wp2
    refine bodyPost_ret ?_ rfl ⟨rfl, (by repeat' (first | (with_reducible exact Below.refl _ _) | (with_reducible assumption) | (with_reducible refine Below.alloc ?_ ?_ _) | (with_reducible refine Below.setCell ?_ ?_ _) | (with_reducible refine Below.drew ?_) | (with_reducible refine below_dn ?_ _) | (with_reducible refine Below.trans ?_ (Below.mono (by assumption) ?_)) | go_size))⟩
    simp only [results, Try.results34]; simp [*, go_sem, ↓IntWalk.iteOmega]; try (first | rfl | exact ⟨rfl, rfl⟩)

theorem swithout_c' (x0 y0 : BitVec 64) (x1 : BitVec 64) (w : World) : Calls Try.prog 34 #[.agg #[.int .u64 (N x0), .int .u64 (N y0)], .int .u64 (N x1)] w fun e w' => e = .returned (.tuple #[.agg #[.int .u64 (N ((Sp.without (⟨x0, y0⟩ : Sp) x1).getD ⟨0, 0⟩).lo), .int .u64 (N ((Sp.without (⟨x0, y0⟩ : Sp) x1).getD ⟨0, 0⟩).hi)], .bool (Sp.without (⟨x0, y0⟩ : Sp) x1).isSome]) ∧ Below w.heap.size w w' := by
  exact swithout_c (⟨x0, y0⟩ : Sp) x1 w

theorem add64_run (x y : BitVec 64) (w : World) : (callFunc 31 #[.int .u64 (N x), .int .u64 (N y), .int .u64 0]).run Try.prog w = .ok (.value (.tuple #[.int .u64 (N (x + y)), .int .u64 (N (Sp.over x y))])) w := by
  rw [run_callFunc_extern Try.func31 (by kernel_rfl) (by kernel_rfl) (by kernel_rfl) (e := add64Entry) (by kernel_rfl), run_add64 _ _ _ (N_nonneg x) (N_nonneg y) (by omega) (by omega)]
  have e1 : (N x + N y + 0) % 18446744073709551616 = N (x + y) := by
    unfold N; rw [BitVec.toNat_add]; omega
  have e2 : (N x + N y + 0) / 18446744073709551616 = N (Sp.over x y) := by
    have := x.isLt; have := y.isLt
    unfold N Sp.over; split
    · show _ = (0 : Int); omega
    · show _ = (1 : Int); omega
  rw [e1, e2]
  rfl
@[go_sem ↓ high] theorem add64_run' (x y : BitVec 64) (w : World) : (callFunc 31 #[.int .u64 (N x), .int .u64 (N y), .int .u64 (N 0#64)]).run Try.prog w = .ok (.value (.tuple #[.int .u64 (N (x + y)), .int .u64 (N (Sp.over x y))])) w := add64_run x y w
attribute [go_sem ↓ high] add64_run

end Hk
