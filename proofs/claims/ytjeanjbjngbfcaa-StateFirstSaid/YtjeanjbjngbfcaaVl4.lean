/- Package val: Within, Join, Move; old memory is as it was. No condition but those in each statement. -/
import Derived.Test.YtjeanjbjngbfcaaProg
import Derived.Test.YtjeanjbjngbfcaaGp
import Derived.Test.YtjeanjbjngbfcaaGv
import Derived.Test.YtjeanjbjngbfcaaVl1
import Derived.Test.YtjeanjbjngbfcaaVl2
import Derived.Test.YtjeanjbjngbfcaaVl3
import Derived.Test.YtjeanjbjngbfcaaGm
import Derived.Test.YtjeanjbjngbfcaaFa5
import Derived.Deep.DeepCutAuto
namespace Hk
open Go Go.RowKit Go.Proofs
set_option linter.unusedSimpArgs false
set_option linter.unusedVariables false
set_option maxRecDepth 100000
attribute [go_sem] Tn.eta Sp.eta Fa.eta Vl.eta
theorem Vl.ptr_right {v : Vl} (h : Vl.ptr v = true) : Vl.right v = true := by
  unfold Vl.ptr at h; rw [Bool.and_eq_true] at h; exact h.2

theorem vwithin_n1 (a b : Vl) (ra : Vl.right a = false) (w : World) : Calls Try.prog 39 #[.agg #[.int .u8 a.k, .int .u64 (N a.f.t.v), .int .u64 (N a.f.t.m), .int .u64 (N a.f.s.lo), .int .u64 (N a.f.s.hi), .int .i64 a.i, .int .i64 a.off], .agg #[.int .u8 b.k, .int .u64 (N b.f.t.v), .int .u64 (N b.f.t.m), .int .u64 (N b.f.s.lo), .int .u64 (N b.f.s.hi), .int .i64 b.i, .int .i64 b.off]] w fun e w' => e = .returned (.bool (Vl.within a b)) ∧ Below w.heap.size w w' := by
  go_enter Try.func39, Try.ntmps39
  go_wp2_with (first | (go_at_call 28; (with_reducible refine (vright_c' _ _ _ _ _ _ _ _).mono ?_); rintro e w1 ⟨rfl, hb1⟩; obtain ⟨hc1, hf1, hz1⟩ := bcell hb1; (try simp only [World.size_alloc, World.size_setCell, World.size_drew] at hc1 hf1 hz1)))
  go_ret
  exact ⟨by simp [Vl.within, *], (by repeat' (first | (with_reducible exact Below.refl _ _) | (with_reducible assumption) | (with_reducible refine Below.alloc ?_ ?_ _) | (with_reducible refine Below.setCell ?_ ?_ _) | (with_reducible refine Below.drew ?_) | (with_reducible refine below_dn ?_ _) | (with_reducible refine Below.trans ?_ (Below.mono (by assumption) ?_)) | go_size))⟩

theorem vwithin_n2 (a b : Vl) (ra : Vl.right a = true) (rb : Vl.right b = false) (w : World) : Calls Try.prog 39 #[.agg #[.int .u8 a.k, .int .u64 (N a.f.t.v), .int .u64 (N a.f.t.m), .int .u64 (N a.f.s.lo), .int .u64 (N a.f.s.hi), .int .i64 a.i, .int .i64 a.off], .agg #[.int .u8 b.k, .int .u64 (N b.f.t.v), .int .u64 (N b.f.t.m), .int .u64 (N b.f.s.lo), .int .u64 (N b.f.s.hi), .int .i64 b.i, .int .i64 b.off]] w fun e w' => e = .returned (.bool (Vl.within a b)) ∧ Below w.heap.size w w' := by
  go_enter Try.func39, Try.ntmps39
  go_wp2_with (first | (go_at_call 28; (with_reducible refine (vright_c' _ _ _ _ _ _ _ _).mono ?_); rintro e w1 ⟨rfl, hb1⟩; obtain ⟨hc1, hf1, hz1⟩ := bcell hb1; (try simp only [World.size_alloc, World.size_setCell, World.size_drew] at hc1 hf1 hz1)))
  go_ret
  exact ⟨by simp [Vl.within, *], (by repeat' (first | (with_reducible exact Below.refl _ _) | (with_reducible assumption) | (with_reducible refine Below.alloc ?_ ?_ _) | (with_reducible refine Below.setCell ?_ ?_ _) | (with_reducible refine Below.drew ?_) | (with_reducible refine below_dn ?_ _) | (with_reducible refine Below.trans ?_ (Below.mono (by assumption) ?_)) | go_size))⟩

set_option maxHeartbeats 4000000 in
theorem vwithin_in (a b : Vl) (ra : Vl.right a = true) (rb : Vl.right b = true) (w : World) : Calls Try.prog 39 #[.agg #[.int .u8 a.k, .int .u64 (N a.f.t.v), .int .u64 (N a.f.t.m), .int .u64 (N a.f.s.lo), .int .u64 (N a.f.s.hi), .int .i64 a.i, .int .i64 a.off], .agg #[.int .u8 b.k, .int .u64 (N b.f.t.v), .int .u64 (N b.f.t.m), .int .u64 (N b.f.s.lo), .int .u64 (N b.f.s.hi), .int .i64 b.i, .int .i64 b.off]] w fun e w' => e = .returned (.bool (Vl.within a b)) ∧ Below w.heap.size w w' := by
  go_enter Try.func39, Try.ntmps39
  go_upto_region 3 with (first | (go_at_call 28; (with_reducible refine (vright_c' _ _ _ _ _ _ _ _).mono ?_); rintro e w1 ⟨rfl, hb1⟩; obtain ⟨hc1, hf1, hz1⟩ := bcell hb1; (try simp only [World.size_alloc, World.size_setCell, World.size_drew] at hc1 hf1 hz1)))
  by_cases h1 : a.k = 1 <;> by_cases h2 : b.k = 1
  · go_wp2_with (first | (go_at_call 51; (with_reducible refine (fwithin_c' _ _ _ _ _ _ _ _ _).mono ?_); rintro e w1 ⟨rfl, hb1⟩; obtain ⟨hc1, hf1, hz1⟩ := bcell hb1; (try simp only [World.size_alloc, World.size_setCell, World.size_drew] at hc1 hf1 hz1)))
    (go_ret; exact ⟨by simp [Vl.within, Vl.eq_iff, *], (by repeat' (first | (with_reducible exact Below.refl _ _) | (with_reducible assumption) | (with_reducible refine Below.alloc ?_ ?_ _) | (with_reducible refine Below.setCell ?_ ?_ _) | (with_reducible refine Below.drew ?_) | (with_reducible refine below_dn ?_ _) | (with_reducible refine Below.trans ?_ (Below.mono (by assumption) ?_)) | go_size))⟩)
  all_goals (go_wp2; all_goals (go_ret; exact ⟨by simp [Vl.within, Vl.eq_iff, *], (by repeat' (first | (with_reducible exact Below.refl _ _) | (with_reducible assumption) | (with_reducible refine Below.alloc ?_ ?_ _) | (with_reducible refine Below.setCell ?_ ?_ _) | (with_reducible refine Below.drew ?_) | (with_reducible refine below_dn ?_ _) | (with_reducible refine Below.trans ?_ (Below.mono (by assumption) ?_)) | go_size))⟩))

theorem vwithin_c (a b : Vl) (w : World) : Calls Try.prog 39 #[.agg #[.int .u8 a.k, .int .u64 (N a.f.t.v), .int .u64 (N a.f.t.m), .int .u64 (N a.f.s.lo), .int .u64 (N a.f.s.hi), .int .i64 a.i, .int .i64 a.off], .agg #[.int .u8 b.k, .int .u64 (N b.f.t.v), .int .u64 (N b.f.t.m), .int .u64 (N b.f.s.lo), .int .u64 (N b.f.s.hi), .int .i64 b.i, .int .i64 b.off]] w fun e w' => e = .returned (.bool (Vl.within a b)) ∧ Below w.heap.size w w' := by
  cases ra : Vl.right a
  · exact vwithin_n1 a b ra w
  cases rb : Vl.right b
  · exact vwithin_n2 a b ra rb w
  exact vwithin_in a b ra rb w

theorem vwithin_c' (k0 : Int) (x0 y0 z0 u0 : BitVec 64) (i0 o0 : Int) (k1 : Int) (x1 y1 z1 u1 : BitVec 64) (i1 o1 : Int) (w : World) : Calls Try.prog 39 #[.agg #[.int .u8 k0, .int .u64 (N x0), .int .u64 (N y0), .int .u64 (N z0), .int .u64 (N u0), .int .i64 i0, .int .i64 o0], .agg #[.int .u8 k1, .int .u64 (N x1), .int .u64 (N y1), .int .u64 (N z1), .int .u64 (N u1), .int .i64 i1, .int .i64 o1]] w fun e w' => e = .returned (.bool (Vl.within (⟨k0, ⟨⟨x0, y0⟩, ⟨z0, u0⟩⟩, i0, o0⟩ : Vl) (⟨k1, ⟨⟨x1, y1⟩, ⟨z1, u1⟩⟩, i1, o1⟩ : Vl))) ∧ Below w.heap.size w w' := by
  exact vwithin_c (⟨k0, ⟨⟨x0, y0⟩, ⟨z0, u0⟩⟩, i0, o0⟩ : Vl) (⟨k1, ⟨⟨x1, y1⟩, ⟨z1, u1⟩⟩, i1, o1⟩ : Vl) w

end Hk
