/- The statement FactIf of the Go text: it returns true, and old memory is as it was. No condition but a byte's bounds. -/
import Derived.Test.YtmhkngblpojeaaaProg
import Derived.Test.YtmhkngblpojeaaaGp
import Derived.Test.YtmhkngblpojeaaaFl1
import Derived.Test.YtmhkngblpojeaaaFa14
import Derived.Test.YtmhkngblpojeaaaFr17
import Derived.Test.YtmhkngblpojeaaaGl
import Derived.LoopN
namespace Hk
open Go Go.RowKit Go.Proofs
set_option linter.unusedSimpArgs false
set_option linter.unusedVariables false
set_option maxRecDepth 100000
attribute [go_sem] Tn.eta
set_option maxHeartbeats 8000000 in
theorem factIf_walk (op : Int) (_ : 0 ≤ op ∧ op ≤ 255) (wd : Bool) (a b : Fa) (w : World) : Calls Try.prog 10 #[.int .u8 op, .bool wd, .agg #[.int .u64 (N a.t.v), .int .u64 (N a.t.m), .int .u64 (N a.s.lo), .int .u64 (N a.s.hi)], .agg #[.int .u64 (N b.t.v), .int .u64 (N b.t.m), .int .u64 (N b.s.lo), .int .u64 (N b.s.hi)]] w fun e w' => e = .returned (.bool true) ∧ Below w.heap.size w w' := by
  obtain ⟨c, hc⟩ : ∃ c, Hid ((Fa.settle a).getD Fa.zero = c) := ⟨_, Lib.hid rfl⟩
  obtain ⟨d, hd⟩ : ∃ d, Hid ((Fa.settle b).getD Fa.zero = d) := ⟨_, Lib.hid rfl⟩
  obtain ⟨f0, hf0⟩ : ∃ q, Hid (((Fa.if_ op wd a b).getD (Fa.zero, Fa.zero)).1 = q) := ⟨_, Lib.hid rfl⟩
  obtain ⟨g0, hg0⟩ : ∃ q, Hid (((Fa.if_ op wd a b).getD (Fa.zero, Fa.zero)).2 = q) := ⟨_, Lib.hid rfl⟩
  obtain ⟨m0, hm0⟩ : ∃ q, Hid ((Fa.if_ op wd a b).isSome = q) := ⟨_, Lib.hid rfl⟩
  obtain ⟨f1, hf1⟩ : ∃ q, Hid (((Fa.if_ op wd c d).getD (Fa.zero, Fa.zero)).1 = q) := ⟨_, Lib.hid rfl⟩
  obtain ⟨g1, hg1⟩ : ∃ q, Hid (((Fa.if_ op wd c d).getD (Fa.zero, Fa.zero)).2 = q) := ⟨_, Lib.hid rfl⟩
  obtain ⟨m1, hm1⟩ : ∃ q, Hid ((Fa.if_ op wd c d).isSome = q) := ⟨_, Lib.hid rfl⟩
  go_enter Try.func10, Try.ntmps10
  go_wp2_with fail
  refine (fshown_c _).mono ?_
  rintro e wS ⟨rfl, hbwS⟩
  obtain ⟨hcwS, hfwS, hzwS⟩ := bcell hbwS
  (try simp only [World.size_alloc, World.size_setCell, World.size_drew] at hcwS hfwS hzwS)
  go_wp2_with fail
  refine (rsettle_c' _ _ _ _ _).mono ?_
  rintro e wA ⟨rfl, hbwA⟩
  obtain ⟨hcwA, hfwA, hzwA⟩ := bcell hbwA
  (try simp only [World.size_alloc, World.size_setCell, World.size_drew] at hcwA hfwA hzwA)
  (try simp only [Tn.eta, Sp.eta, Fa.eta, hc.out, Option.isSome_some, Option.isSome_none, Option.getD_some, Option.getD_none, if_true, Bool.false_eq_true, if_false])
  go_wp2_with fail
  refine (rsettle_c' _ _ _ _ _).mono ?_
  rintro e wB ⟨rfl, hbwB⟩
  obtain ⟨hcwB, hfwB, hzwB⟩ := bcell hbwB
  (try simp only [World.size_alloc, World.size_setCell, World.size_drew] at hcwB hfwB hzwB)
  (try simp only [Tn.eta, Sp.eta, Fa.eta, hd.out, Option.isSome_some, Option.isSome_none, Option.getD_some, Option.getD_none, if_true, Bool.false_eq_true, if_false])
  go_wp2_with fail
  refine wp_loop_rounds 3 ?_
  rw [rounds_succ]
  go_wp2_with fail
  refine (fif_c' _ _ _ _ _ _ _ _ _ _ _).mono ?_
  rintro e wP0 ⟨rfl, hbwP0⟩
  obtain ⟨hcwP0, hfwP0, hzwP0⟩ := bcell hbwP0
  (try simp only [World.size_alloc, World.size_setCell, World.size_drew] at hcwP0 hfwP0 hzwP0)
  (try simp only [Tn.eta, Sp.eta, Fa.eta, hf0.out, hg0.out, hm0.out, Option.isSome_some, Option.isSome_none, Option.getD_some, Option.getD_none, if_true, Bool.false_eq_true, if_false])
  go_wp2_with fail
  refine (rfif_c' _ _ _ _ _ _ _ _ _ _ _).mono ?_
  rintro e wR0 ⟨rfl, hbwR0⟩
  obtain ⟨hcwR0, hfwR0, hzwR0⟩ := bcell hbwR0
  (try simp only [World.size_alloc, World.size_setCell, World.size_drew] at hcwR0 hfwR0 hzwR0)
  (try simp only [Tn.eta, Sp.eta, Fa.eta, hf0.out, hg0.out, hm0.out, Option.isSome_some, Option.isSome_none, Option.getD_some, Option.getD_none, if_true, Bool.false_eq_true, if_false])
  go_wp2_with fail
  rw [rounds_succ]
  go_wp2_with fail
  refine (fif_c' _ _ _ _ _ _ _ _ _ _ _).mono ?_
  rintro e wP1 ⟨rfl, hbwP1⟩
  obtain ⟨hcwP1, hfwP1, hzwP1⟩ := bcell hbwP1
  (try simp only [World.size_alloc, World.size_setCell, World.size_drew] at hcwP1 hfwP1 hzwP1)
  (try simp only [Tn.eta, Sp.eta, Fa.eta, hf1.out, hg1.out, hm1.out, Option.isSome_some, Option.isSome_none, Option.getD_some, Option.getD_none, if_true, Bool.false_eq_true, if_false])
  go_wp2_with fail
  refine (rfif_c' _ _ _ _ _ _ _ _ _ _ _).mono ?_
  rintro e wR1 ⟨rfl, hbwR1⟩
  obtain ⟨hcwR1, hfwR1, hzwR1⟩ := bcell hbwR1
  (try simp only [World.size_alloc, World.size_setCell, World.size_drew] at hcwR1 hfwR1 hzwR1)
  (try simp only [Tn.eta, Sp.eta, Fa.eta, hf1.out, hg1.out, hm1.out, Option.isSome_some, Option.isSome_none, Option.getD_some, Option.getD_none, if_true, Bool.false_eq_true, if_false])
  go_wp2_with fail
  rw [rounds_succ]
  go_wp2
  go_ret
  exact ⟨rfl, (by repeat' (first | (with_reducible exact Below.refl _ _) | (with_reducible assumption) | (with_reducible refine Below.alloc ?_ ?_ _) | (with_reducible refine Below.setCell ?_ ?_ _) | (with_reducible refine Below.drew ?_) | (with_reducible refine below_dn ?_ _) | (with_reducible refine Below.trans ?_ (Below.mono (by assumption) ?_)) | go_size))⟩

end Hk
