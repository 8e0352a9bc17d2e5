/- The statement ValMoves of the Go text: it returns true, and old memory is as it was. No condition but the bounds of the arguments' kinds. -/
import Derived.Test.YtnngchpbblehfaaProg
import Derived.Test.YtnngchpbblehfaaGp
import Derived.Test.YtnngchpbblehfaaVlMv
import Derived.Test.YtnngchpbblehfaaVl5
import Derived.Test.YtnngchpbblehfaaGl
namespace Hk
open Go Go.RowKit Go.Proofs
set_option linter.unusedSimpArgs false
set_option linter.unusedVariables false
set_option maxRecDepth 100000
attribute [go_sem] Tn.eta Sp.eta Fa.eta Vl.eta
set_option maxHeartbeats 4000000 in
theorem valMoves_n (v : Vl) (n d : BitVec 64) (hm : Vl.moveOk v d = false) (hx : Vl.move v d = Vl.zero) (w : World) : Calls Try.prog 4 #[.agg #[.int .u8 v.k, .int .u64 (N v.f.t.v), .int .u64 (N v.f.t.m), .int .u64 (N v.f.s.lo), .int .u64 (N v.f.s.hi), .int .i64 v.i, .int .i64 v.off], .int .u64 (N n), .int .u64 (N d)] w fun e w' => e = .returned (.bool true) ∧ Below w.heap.size w w' := by
  go_enter Try.func4, Try.ntmps4
  go_wp2_with fail
  refine (vshown_c _).mono ?_
  rintro e wS ⟨rfl, hbwS⟩
  obtain ⟨hcwS, hfwS, hzwS⟩ := bcell hbwS
  (try simp only [World.size_alloc, World.size_setCell, World.size_drew] at hcwS hfwS hzwS)
  go_wp2_with fail
  refine (vmove_c' _ _ _ _ _ _ _ _ _).mono ?_
  rintro e wM ⟨rfl, hbwM⟩
  obtain ⟨hcwM, hfwM, hzwM⟩ := bcell hbwM
  (try simp only [World.size_alloc, World.size_setCell, World.size_drew] at hcwM hfwM hzwM)
  simp only [Vl.eta, Tn.eta, Sp.eta, Fa.eta, hm, hx, Vl.zero, Fa.zero]
  go_wp2
  go_ret
  exact ⟨rfl, (by repeat' (first | (with_reducible exact Below.refl _ _) | (with_reducible assumption) | (with_reducible refine Below.alloc ?_ ?_ _) | (with_reducible refine Below.setCell ?_ ?_ _) | (with_reducible refine Below.drew ?_) | (with_reducible refine below_dn ?_ _) | (with_reducible refine Below.trans ?_ (Below.mono (by assumption) ?_)) | go_size))⟩

set_option maxHeartbeats 4000000 in
theorem valMoves_y (v : Vl) (n d : BitVec 64) (o : Int) (q r : Bool) (hm : Vl.moveOk v d = true) (hx : Vl.move v d = (⟨v.k, v.f, v.i, o⟩ : Vl)) (hm2 : Vl.moveOk (⟨v.k, v.f, v.i, o⟩ : Vl) (-d) = true) (hx2 : Vl.move (⟨v.k, v.f, v.i, o⟩ : Vl) (-d) = v) (hp : Vl.ptr v = true) (hp2 : Vl.ptr (⟨v.k, v.f, v.i, o⟩ : Vl) = true) (hq : Vl.is_ v n true = q) (hr : Vl.is_ (⟨v.k, v.f, v.i, o⟩ : Vl) (n + d) true = r) (ho : (!q || r) = true) (w : World) : Calls Try.prog 4 #[.agg #[.int .u8 v.k, .int .u64 (N v.f.t.v), .int .u64 (N v.f.t.m), .int .u64 (N v.f.s.lo), .int .u64 (N v.f.s.hi), .int .i64 v.i, .int .i64 v.off], .int .u64 (N n), .int .u64 (N d)] w fun e w' => e = .returned (.bool true) ∧ Below w.heap.size w w' := by
  go_enter Try.func4, Try.ntmps4
  go_wp2_with fail
  refine (vshown_c _).mono ?_
  rintro e wS ⟨rfl, hbwS⟩
  obtain ⟨hcwS, hfwS, hzwS⟩ := bcell hbwS
  (try simp only [World.size_alloc, World.size_setCell, World.size_drew] at hcwS hfwS hzwS)
  go_wp2_with fail
  refine (vmove_c' _ _ _ _ _ _ _ _ _).mono ?_
  rintro e wM ⟨rfl, hbwM⟩
  obtain ⟨hcwM, hfwM, hzwM⟩ := bcell hbwM
  (try simp only [World.size_alloc, World.size_setCell, World.size_drew] at hcwM hfwM hzwM)
  simp only [Vl.eta, Tn.eta, Sp.eta, Fa.eta, hm, hx]
  go_wp2_with fail
  refine (vmove_c' _ _ _ _ _ _ _ _ _).mono ?_
  rintro e wN ⟨rfl, hbwN⟩
  obtain ⟨hcwN, hfwN, hzwN⟩ := bcell hbwN
  (try simp only [World.size_alloc, World.size_setCell, World.size_drew] at hcwN hfwN hzwN)
  simp only [Vl.eta, Tn.eta, Sp.eta, Fa.eta, hm2, hx2]
  cases q <;> cases r
  all_goals first | (exact absurd ho (by decide)) | clear ho
  all_goals
    go_wp2_with (first | (go_at_call 16; (with_reducible refine (vptr_c' _ _ _ _ _ _ _ _).mono ?_); rintro e w1 ⟨rfl, hb1⟩; obtain ⟨hc1, hf1, hz1⟩ := bcell hb1; (try simp only [World.size_alloc, World.size_setCell, World.size_drew] at hc1 hf1 hz1)) | (go_at_call 18; (with_reducible refine (vis_c' _ _ _ _ _ _ _ _ _ _).mono ?_); rintro e w1 ⟨rfl, hb1⟩; obtain ⟨hc1, hf1, hz1⟩ := bcell hb1; (try simp only [World.size_alloc, World.size_setCell, World.size_drew] at hc1 hf1 hz1)))
    go_ret
    exact ⟨rfl, (by repeat' (first | (with_reducible exact Below.refl _ _) | (with_reducible assumption) | (with_reducible refine Below.alloc ?_ ?_ _) | (with_reducible refine Below.setCell ?_ ?_ _) | (with_reducible refine Below.drew ?_) | (with_reducible refine below_dn ?_ _) | (with_reducible refine Below.trans ?_ (Below.mono (by assumption) ?_)) | go_size))⟩

theorem valMoves_walk (v : Vl) (_ : 0 ≤ v.k ∧ v.k ≤ 255) (_ : -9223372036854775808 ≤ v.i ∧ v.i ≤ 9223372036854775807) (_ : -9223372036854775808 ≤ v.off ∧ v.off ≤ 9223372036854775807) (n d : BitVec 64) (w : World) : Calls Try.prog 4 #[.agg #[.int .u8 v.k, .int .u64 (N v.f.t.v), .int .u64 (N v.f.t.m), .int .u64 (N v.f.s.lo), .int .u64 (N v.f.s.hi), .int .i64 v.i, .int .i64 v.off], .int .u64 (N n), .int .u64 (N d)] w fun e w' => e = .returned (.bool true) ∧ Below w.heap.size w w' := by
  cases hm : Vl.moveOk v d
  · exact valMoves_n v n d hm (Vl.move_no hm) w
  obtain ⟨hx, hp, hp2, hm2, hx2⟩ := Vl.move_spec hm
  refine valMoves_y v n d _ _ _ hm hx hm2 hx2 hp hp2 rfl rfl ?_ w
  cases h : Vl.is_ v n true
  · rfl
  rw [Vl.move_is hp hp2 h]
  rfl

end Hk
