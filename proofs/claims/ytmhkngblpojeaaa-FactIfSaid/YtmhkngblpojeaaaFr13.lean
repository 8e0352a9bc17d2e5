/- The reference of facts: with; old memory is as it was. No condition but those in each statement. -/
import Derived.Test.YtmhkngblpojeaaaProg
import Derived.Test.YtmhkngblpojeaaaGp
import Derived.Test.YtmhkngblpojeaaaFaIf
import Derived.Test.YtmhkngblpojeaaaGx
import Derived.Test.YtmhkngblpojeaaaGl
namespace Hk
open Go Go.RowKit Go.Proofs
set_option linter.unusedSimpArgs false
set_option linter.unusedVariables false
set_option maxRecDepth 100000
attribute [go_sem] Tn.eta
attribute [go_sem] Cond.val_some Cond.err_some Cond.val_none Cond.err_none
/-- the reference's with -/
def Fa.wth (f : Fa) (s : Sp) (ok : Bool) : Option Fa := if ok then Fa.settle ⟨f.t, s⟩ else none
theorem Fa.wth_bind {f : Fa} {s : Option Sp} : Fa.wth f (s.getD ⟨0, 0⟩) s.isSome = s.bind fun r => Fa.settle ⟨f.t, r⟩ := by
  cases s <;> rfl

theorem rfwith_t (f : Fa) (s : Sp) (w : World) : Calls Try.prog 76 #[.agg #[.int .u64 (N f.t.v), .int .u64 (N f.t.m), .int .u64 (N f.s.lo), .int .u64 (N f.s.hi)], .agg #[.int .u64 (N s.lo), .int .u64 (N s.hi)], .bool true] w fun e w' => e = .returned (.tuple #[.agg #[.int .u64 (N ((Fa.wth f s true).getD Fa.zero).t.v), .int .u64 (N ((Fa.wth f s true).getD Fa.zero).t.m), .int .u64 (N ((Fa.wth f s true).getD Fa.zero).s.lo), .int .u64 (N ((Fa.wth f s true).getD Fa.zero).s.hi)], .bool (Fa.wth f s true).isSome]) ∧ Below w.heap.size w w' := by
  have hE : Fa.wth f s true = Fa.settle ⟨f.t, s⟩ := rfl
  rw [hE]
  clear hE
  go_enter Try.func76, Try.ntmps76
  go_wp2_with fail
  refine (rsettle_c' _ _ _ _ _).mono ?_
  rintro e w1 ⟨rfl, hbw1⟩
  obtain ⟨hcw1, hfw1, hzw1⟩ := bcell hbw1
  (try simp only [World.size_alloc, World.size_setCell, World.size_drew] at hcw1 hfw1 hzw1)
  (try simp only [Tn.eta, Sp.eta, Fa.eta, if_true, Option.isSome_some, Option.isSome_none, Option.getD_some, Option.getD_none, if_true, Bool.false_eq_true, if_false])
  go_wp2
  refine bodyPost_ret ?_ rfl ⟨rfl, (by repeat' (first | (with_reducible exact Below.refl _ _) | (with_reducible assumption) | (with_reducible refine Below.alloc ?_ ?_ _) | (with_reducible refine Below.setCell ?_ ?_ _) | (with_reducible refine Below.drew ?_) | (with_reducible refine below_dn ?_ _) | (with_reducible refine Below.trans ?_ (Below.mono (by assumption) ?_)) | go_size))⟩
  simp only [results, Try.results76]; simp [*, go_sem, ↓IntWalk.iteOmega, Fa.zero]; try (first | rfl | exact ⟨rfl, rfl⟩)

theorem rfwith_f (f : Fa) (s : Sp) (w : World) : Calls Try.prog 76 #[.agg #[.int .u64 (N f.t.v), .int .u64 (N f.t.m), .int .u64 (N f.s.lo), .int .u64 (N f.s.hi)], .agg #[.int .u64 (N s.lo), .int .u64 (N s.hi)], .bool false] w fun e w' => e = .returned (.tuple #[.agg #[.int .u64 (N ((Fa.wth f s false).getD Fa.zero).t.v), .int .u64 (N ((Fa.wth f s false).getD Fa.zero).t.m), .int .u64 (N ((Fa.wth f s false).getD Fa.zero).s.lo), .int .u64 (N ((Fa.wth f s false).getD Fa.zero).s.hi)], .bool (Fa.wth f s false).isSome]) ∧ Below w.heap.size w w' := by
  have hE : Fa.wth f s false = none := rfl
  rw [hE]
  clear hE
  go_enter Try.func76, Try.ntmps76
  go_wp2
  refine bodyPost_ret ?_ rfl ⟨rfl, (by repeat' (first | (with_reducible exact Below.refl _ _) | (with_reducible assumption) | (with_reducible refine Below.alloc ?_ ?_ _) | (with_reducible refine Below.setCell ?_ ?_ _) | (with_reducible refine Below.drew ?_) | (with_reducible refine below_dn ?_ _) | (with_reducible refine Below.trans ?_ (Below.mono (by assumption) ?_)) | go_size))⟩
  simp only [results, Try.results76]; simp [*, go_sem, ↓IntWalk.iteOmega, Fa.zero]; try (first | rfl | exact ⟨rfl, rfl⟩)

theorem rfwith_c (f : Fa) (s : Sp) (ok : Bool) (w : World) : Calls Try.prog 76 #[.agg #[.int .u64 (N f.t.v), .int .u64 (N f.t.m), .int .u64 (N f.s.lo), .int .u64 (N f.s.hi)], .agg #[.int .u64 (N s.lo), .int .u64 (N s.hi)], .bool ok] w fun e w' => e = .returned (.tuple #[.agg #[.int .u64 (N ((Fa.wth f s ok).getD Fa.zero).t.v), .int .u64 (N ((Fa.wth f s ok).getD Fa.zero).t.m), .int .u64 (N ((Fa.wth f s ok).getD Fa.zero).s.lo), .int .u64 (N ((Fa.wth f s ok).getD Fa.zero).s.hi)], .bool (Fa.wth f s ok).isSome]) ∧ Below w.heap.size w w' := by
  cases ok
  · exact rfwith_f f s w
  · exact rfwith_t f s w

theorem rfwith_c' (x0 y0 z0 u0 : BitVec 64) (x1 y1 : BitVec 64) (x2 : Bool) (w : World) : Calls Try.prog 76 #[.agg #[.int .u64 (N x0), .int .u64 (N y0), .int .u64 (N z0), .int .u64 (N u0)], .agg #[.int .u64 (N x1), .int .u64 (N y1)], .bool x2] w fun e w' => e = .returned (.tuple #[.agg #[.int .u64 (N ((Fa.wth (⟨⟨x0, y0⟩, ⟨z0, u0⟩⟩ : Fa) (⟨x1, y1⟩ : Sp) x2).getD Fa.zero).t.v), .int .u64 (N ((Fa.wth (⟨⟨x0, y0⟩, ⟨z0, u0⟩⟩ : Fa) (⟨x1, y1⟩ : Sp) x2).getD Fa.zero).t.m), .int .u64 (N ((Fa.wth (⟨⟨x0, y0⟩, ⟨z0, u0⟩⟩ : Fa) (⟨x1, y1⟩ : Sp) x2).getD Fa.zero).s.lo), .int .u64 (N ((Fa.wth (⟨⟨x0, y0⟩, ⟨z0, u0⟩⟩ : Fa) (⟨x1, y1⟩ : Sp) x2).getD Fa.zero).s.hi)], .bool (Fa.wth (⟨⟨x0, y0⟩, ⟨z0, u0⟩⟩ : Fa) (⟨x1, y1⟩ : Sp) x2).isSome]) ∧ Below w.heap.size w w' := by
  exact rfwith_c (⟨⟨x0, y0⟩, ⟨z0, u0⟩⟩ : Fa) (⟨x1, y1⟩ : Sp) x2 w

end Hk
