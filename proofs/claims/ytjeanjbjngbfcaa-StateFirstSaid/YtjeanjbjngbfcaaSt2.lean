/- Package state: First, Right; old memory is as it was. No condition but those in each statement. -/
import Derived.Test.YtjeanjbjngbfcaaProg
import Derived.Test.YtjeanjbjngbfcaaGp
import Derived.Test.YtjeanjbjngbfcaaSt1
import Derived.Outline
namespace Hk
open Go Go.RowKit Go.Proofs
set_option linter.unusedSimpArgs false
set_option linter.unusedVariables false
set_option maxRecDepth 100000
attribute [go_sem] Tn.eta Sp.eta Fa.eta Vl.eta
@[go_sem] theorem first_cells : ((((((((((((((St.zero.cells.setIfInBounds 7 (Value.int .u8 2)).setIfInBounds 8 (Value.int .u64 (N 0#64))).setIfInBounds 9 (Value.int .u64 (N 0#64))).setIfInBounds 10 (Value.int .u64 (N 0#64))).setIfInBounds 11 (Value.int .u64 (N 0#64))).setIfInBounds 12 (Value.int .i64 0)).setIfInBounds 13 (Value.int .i64 0)).setIfInBounds 70 (Value.int .u8 3)).setIfInBounds 71 (Value.int .u64 (N 0#64))).setIfInBounds 72 (Value.int .u64 (N 0#64))).setIfInBounds 73 (Value.int .u64 (N 0#64))).setIfInBounds 74 (Value.int .u64 (N 0#64))).setIfInBounds 75 (Value.int .i64 0)).setIfInBounds 76 (Value.int .i64 512)) = St.cells St.first := by kernel_rfl

theorem results_st {fn : Func} {p : Tmp} (h : fn.results = #[.cell p 38]) (tmps : Array Value) (w : World) (g : Nat) (c : Array Value) (hp : tmps.getD p undef = .pointer (some ⟨g, 0, none⟩)) (hs : (blk w g).size = 589) (hc : blk w g = c) :
    (results fn tmps).run Try.prog w = .ok (.agg c) w := by
  have hp' : tmps[p]?.getD undef = .pointer (some ⟨g, 0, none⟩) := by simpa using hp
  subst hc
  simp [results, h, hp', asAddr, bl_st_var w g hs]

set_option maxHeartbeats 1000000 in
theorem tfirst_c  (w : World) : Calls Try.prog 18 #[] w fun e w' => e = .returned (.agg (St.cells St.first)) ∧ Below w.heap.size w w' := by
  go_enter Try.func18, Try.ntmps18
  go_wp2
  refine bodyPost_ret (v := .agg (St.cells St.first)) ?_ rfl ⟨rfl, (by repeat' (first | (with_reducible exact Below.refl _ _) | (with_reducible assumption) | (with_reducible refine Below.alloc ?_ ?_ _) | (with_reducible refine Below.setCell ?_ ?_ _) | (with_reducible refine below_setRow ?_ ?_) | (with_reducible refine Below.drew ?_) | (with_reducible refine below_dn ?_ _) | (with_reducible refine Below.trans ?_ (Below.mono (by assumption) ?_)) | go_size))⟩
  exact results_st (fn := Try.f18) rfl _ _ _ _ rfl (by simp [*, go_sem, ↓IntWalk.iteOmega]) (by simp [*, go_sem, ↓IntWalk.iteOmega])

end Hk
