/- The statement FactDoes of the Go text: it returns true, and old memory is as it was. No condition but a byte's and a 16-bit number's bounds. -/
import Derived.Test.YtmhkngblpojeaaaProg
import Derived.Test.YtmhkngblpojeaaaGp
import Derived.Test.YtmhkngblpojeaaaFl1
import Derived.Test.YtmhkngblpojeaaaFr12
import Derived.Test.YtmhkngblpojeaaaGl
import Derived.LoopN
namespace Hk
open Go Go.RowKit Go.Proofs
set_option linter.unusedSimpArgs false
set_option linter.unusedVariables false
set_option maxRecDepth 100000
attribute [go_sem] Tn.eta
set_option maxHeartbeats 8000000 in
theorem factDoes_walk (op : Int) (_ : 0 ≤ op ∧ op ≤ 255) (wd : Bool) (off : Int) (_ : -32768 ≤ off ∧ off ≤ 32767) (a b : Fa) (w : World) : Calls Try.prog 3 #[.int .u8 op, .bool wd, .int .i16 off, .agg #[.int .u64 (N a.t.v), .int .u64 (N a.t.m), .int .u64 (N a.s.lo), .int .u64 (N a.s.hi)], .agg #[.int .u64 (N b.t.v), .int .u64 (N b.t.m), .int .u64 (N b.s.lo), .int .u64 (N b.s.hi)]] w fun e w' => e = .returned (.bool true) ∧ Below w.heap.size w w' := by
  cases h1 : (Fa.do_ op wd off a b).isSome <;> cases h2 : (Fa.do_ op wd off ((Fa.settle a).getD Fa.zero) ((Fa.settle b).getD Fa.zero)).isSome
  all_goals
    go_enter Try.func3, Try.ntmps3
    go_wp2_with fail
    refine (fshown_c _).mono ?_
    rintro e wS ⟨rfl, hbwS⟩
    obtain ⟨hcwS, hfwS, hzwS⟩ := bcell hbwS
    (try simp only [World.size_alloc, World.size_setCell, World.size_drew] at hcwS hfwS hzwS)
    go_wp2_with fail
    refine (rsettle_c' _ _ _ _ _).mono ?_
    rintro e wA ⟨rfl, hbwA⟩
    obtain ⟨hcwA, hfwA, hzwA⟩ := bcell hbwA
    (try simp only [World.size_alloc, World.size_setCell, World.size_drew] at hcwA hfwA hzwA)
    go_wp2_with fail
    refine (rsettle_c' _ _ _ _ _).mono ?_
    rintro e wB ⟨rfl, hbwB⟩
    obtain ⟨hcwB, hfwB, hzwB⟩ := bcell hbwB
    (try simp only [World.size_alloc, World.size_setCell, World.size_drew] at hcwB hfwB hzwB)
    simp only [Tn.eta, Sp.eta, Fa.eta]
    go_wp2_with fail
    refine wp_loop_rounds 3 ?_
    rw [rounds_succ]
    go_wp2_with (first | (go_at_call 14; (with_reducible refine (fdo_c' _ _ _ _ _ _ _ _ _ _ _ _).mono ?_); rintro e w1 ⟨rfl, hb1⟩; obtain ⟨hc1, hf1, hz1⟩ := bcell hb1; (try simp only [World.size_alloc, World.size_setCell, World.size_drew] at hc1 hf1 hz1)) | (go_at_call 15; (with_reducible refine (rfdo_c' _ _ _ _ _ _ _ _ _ _ _ _).mono ?_); rintro e w1 ⟨rfl, hb1⟩; obtain ⟨hc1, hf1, hz1⟩ := bcell hb1; (try simp only [World.size_alloc, World.size_setCell, World.size_drew] at hc1 hf1 hz1)))
    rw [rounds_succ]
    go_wp2_with (first | (go_at_call 14; (with_reducible refine (fdo_c' _ _ _ _ _ _ _ _ _ _ _ _).mono ?_); rintro e w1 ⟨rfl, hb1⟩; obtain ⟨hc1, hf1, hz1⟩ := bcell hb1; (try simp only [World.size_alloc, World.size_setCell, World.size_drew] at hc1 hf1 hz1)) | (go_at_call 15; (with_reducible refine (rfdo_c' _ _ _ _ _ _ _ _ _ _ _ _).mono ?_); rintro e w1 ⟨rfl, hb1⟩; obtain ⟨hc1, hf1, hz1⟩ := bcell hb1; (try simp only [World.size_alloc, World.size_setCell, World.size_drew] at hc1 hf1 hz1)))
    rw [rounds_succ]
    go_wp2_with (first | (go_at_call 14; (with_reducible refine (fdo_c' _ _ _ _ _ _ _ _ _ _ _ _).mono ?_); rintro e w1 ⟨rfl, hb1⟩; obtain ⟨hc1, hf1, hz1⟩ := bcell hb1; (try simp only [World.size_alloc, World.size_setCell, World.size_drew] at hc1 hf1 hz1)) | (go_at_call 15; (with_reducible refine (rfdo_c' _ _ _ _ _ _ _ _ _ _ _ _).mono ?_); rintro e w1 ⟨rfl, hb1⟩; obtain ⟨hc1, hf1, hz1⟩ := bcell hb1; (try simp only [World.size_alloc, World.size_setCell, World.size_drew] at hc1 hf1 hz1)))
    go_ret
    exact ⟨rfl, (by repeat' (first | (with_reducible exact Below.refl _ _) | (with_reducible assumption) | (with_reducible refine Below.alloc ?_ ?_ _) | (with_reducible refine Below.setCell ?_ ?_ _) | (with_reducible refine Below.drew ?_) | (with_reducible refine below_dn ?_ _) | (with_reducible refine Below.trans ?_ (Below.mono (by assumption) ?_)) | go_size))⟩

end Hk
