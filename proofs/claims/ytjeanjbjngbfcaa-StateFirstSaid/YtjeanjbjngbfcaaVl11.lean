/- The reference of registers: Num, Pointer, Is; old memory is as it was. No condition but those in each statement. -/
import Derived.Test.YtjeanjbjngbfcaaProg
import Derived.Test.YtjeanjbjngbfcaaGp
import Derived.Test.YtjeanjbjngbfcaaGv
import Derived.Test.YtjeanjbjngbfcaaVl5
import Derived.Test.YtjeanjbjngbfcaaGx
import Derived.Test.YtjeanjbjngbfcaaVl10
namespace Hk
open Go Go.RowKit Go.Proofs
set_option linter.unusedSimpArgs false
set_option linter.unusedVariables false
set_option maxRecDepth 100000
attribute [go_sem] Tn.eta Sp.eta Fa.eta Vl.eta
theorem Vl.maybe_off {f : Fa} {i off : Int} (h : Vl.right ⟨6, f, i, off⟩ = true) : off = 0 := by
  unfold Vl.right at h
  simp at h
  exact h.2.2

theorem rvnum_c (f : Fa) (w : World) : Calls Try.prog 50 #[.agg #[.int .u64 (N f.t.v), .int .u64 (N f.t.m), .int .u64 (N f.s.lo), .int .u64 (N f.s.hi)]] w fun e w' => e = .returned (.agg #[.int .u8 (Vl.num f).k, .int .u64 (N (Vl.num f).f.t.v), .int .u64 (N (Vl.num f).f.t.m), .int .u64 (N (Vl.num f).f.s.lo), .int .u64 (N (Vl.num f).f.s.hi), .int .i64 (Vl.num f).i, .int .i64 (Vl.num f).off]) ∧ Below w.heap.size w w' := by
  cases h1 : Fa.ok f
  all_goals
    go_enter Try.func50, Try.ntmps50
    go_wp2_with (first | (go_at_call 29; (with_reducible refine (rfright_c' _ _ _ _ _).mono ?_); rintro e w1 ⟨rfl, hb1⟩; obtain ⟨hc1, hf1, hz1⟩ := bcell hb1; (try simp only [World.size_alloc, World.size_setCell, World.size_drew] at hc1 hf1 hz1)))
    refine bodyPost_ret ?_ rfl ⟨rfl, (by repeat' (first | (with_reducible exact Below.refl _ _) | (with_reducible assumption) | (with_reducible refine Below.alloc ?_ ?_ _) | (with_reducible refine Below.setCell ?_ ?_ _) | (with_reducible refine Below.drew ?_) | (with_reducible refine below_dn ?_ _) | (with_reducible refine Below.trans ?_ (Below.mono (by assumption) ?_)) | go_size))⟩
    simp only [results, Try.results50]; simp [*, go_sem, ↓IntWalk.iteOmega, Vl.num, Vl.zero, Vl.join, Vl.move, Fa.zero]; try (first | rfl | exact ⟨rfl, rfl⟩)

theorem rvnum_c' (x0 y0 z0 u0 : BitVec 64) (w : World) : Calls Try.prog 50 #[.agg #[.int .u64 (N x0), .int .u64 (N y0), .int .u64 (N z0), .int .u64 (N u0)]] w fun e w' => e = .returned (.agg #[.int .u8 (Vl.num (⟨⟨x0, y0⟩, ⟨z0, u0⟩⟩ : Fa)).k, .int .u64 (N (Vl.num (⟨⟨x0, y0⟩, ⟨z0, u0⟩⟩ : Fa)).f.t.v), .int .u64 (N (Vl.num (⟨⟨x0, y0⟩, ⟨z0, u0⟩⟩ : Fa)).f.t.m), .int .u64 (N (Vl.num (⟨⟨x0, y0⟩, ⟨z0, u0⟩⟩ : Fa)).f.s.lo), .int .u64 (N (Vl.num (⟨⟨x0, y0⟩, ⟨z0, u0⟩⟩ : Fa)).f.s.hi), .int .i64 (Vl.num (⟨⟨x0, y0⟩, ⟨z0, u0⟩⟩ : Fa)).i, .int .i64 (Vl.num (⟨⟨x0, y0⟩, ⟨z0, u0⟩⟩ : Fa)).off]) ∧ Below w.heap.size w w' := by
  exact rvnum_c (⟨⟨x0, y0⟩, ⟨z0, u0⟩⟩ : Fa) w

end Hk
