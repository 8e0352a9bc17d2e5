/- The statements' own functions on facts: the document's examples stand, and what is made is a fact; old memory is as it was. No condition. -/
import Derived.Test.YtmhkngblpojeaaaProg
import Derived.Test.YtmhkngblpojeaaaGp
import Derived.Test.YtmhkngblpojeaaaGf
import Derived.Test.YtmhkngblpojeaaaFa5
import Derived.Test.YtmhkngblpojeaaaFa12
import Derived.Test.YtmhkngblpojeaaaGx
import Derived.Test.YtmhkngblpojeaaaFr5
namespace Hk
open Go Go.RowKit Go.Proofs
set_option linter.unusedSimpArgs false
set_option linter.unusedVariables false
set_option maxRecDepth 100000
attribute [go_sem] Tn.eta
@[go_sem high] theorem un_not (x : BitVec 64) : Op.unary .xor (.int .u64 (N x)) = pure (.int .u64 (N (~~~x))) := by
  have h : (18446744073709551615#64 ^^^ x) = ~~~x := by rw [BitVec.xor_comm]; exact BitVec.xor_allOnes
  show Op.intBits .xor .u64 (N 18446744073709551615#64) (N x) = _
  rw [op_xor, h]

theorem fshown_c  (w : World) : Calls Try.prog 12 #[] w fun e w' => e = .returned (.bool true) ∧ Below w.heap.size w w' := by
  have e1 : Fa.settle ⟨⟨0#64, 7#64⟩, ⟨3#64, 100#64⟩⟩ = some ⟨⟨0#64, 7#64⟩, ⟨3#64, 7#64⟩⟩ := by decide +kernel
  have e2 : Fa.do_ 80 true 0 Fa.any (Fa.of 12#64) = some ⟨⟨0#64, 12#64⟩, ⟨0#64, 12#64⟩⟩ := by decide +kernel
  go_enter Try.func12, Try.ntmps12
  go_wp2_with (first | (go_at_call 19; (with_reducible refine (settle_c' _ _ _ _ _).mono ?_); rintro e w1 ⟨rfl, hb1⟩; obtain ⟨hc1, hf1, hz1⟩ := bcell hb1; (try simp only [World.size_alloc, World.size_setCell, World.size_drew] at hc1 hf1 hz1)) | (go_at_call 25; (with_reducible refine (fany_c _).mono ?_); rintro e w1 ⟨rfl, hb1⟩; obtain ⟨hc1, hf1, hz1⟩ := bcell hb1; (try simp only [World.size_alloc, World.size_setCell, World.size_drew] at hc1 hf1 hz1)) | (go_at_call 17; (with_reducible refine (fof_c' _ _).mono ?_); rintro e w1 ⟨rfl, hb1⟩; obtain ⟨hc1, hf1, hz1⟩ := bcell hb1; (try simp only [World.size_alloc, World.size_setCell, World.size_drew] at hc1 hf1 hz1)) | (go_at_call 14; (with_reducible refine (fdo_c' _ _ _ _ _ _ _ _ _ _ _ _).mono ?_); rintro e w1 ⟨rfl, hb1⟩; obtain ⟨hc1, hf1, hz1⟩ := bcell hb1; (try simp only [World.size_alloc, World.size_setCell, World.size_drew] at hc1 hf1 hz1)))
  go_ret
  exact ⟨rfl, (by repeat' (first | (with_reducible exact Below.refl _ _) | (with_reducible assumption) | (with_reducible refine Below.alloc ?_ ?_ _) | (with_reducible refine Below.setCell ?_ ?_ _) | (with_reducible refine Below.drew ?_) | (with_reducible refine below_dn ?_ _) | (with_reducible refine Below.trans ?_ (Below.mono (by assumption) ?_)) | go_size))⟩

theorem fmade_c (n k l m : BitVec 64) (w : World) : Calls Try.prog 16 #[.int .u64 (N n), .int .u64 (N k), .int .u64 (N l), .int .u64 (N m)] w fun e w' => e = .returned (.agg #[.int .u64 (N (Fa.made n k l m).t.v), .int .u64 (N (Fa.made n k l m).t.m), .int .u64 (N (Fa.made n k l m).s.lo), .int .u64 (N (Fa.made n k l m).s.hi)]) ∧ Below w.heap.size w w' := by
  have e0 : Fa.made n k l m = (Fa.settle ⟨⟨n &&& k, ~~~k⟩, ⟨n - Sp.mn n l, n + Sp.mn (~~~n) m⟩⟩).getD Fa.zero := rfl
  rw [e0]
  clear e0
  go_enter Try.func16, Try.ntmps16
  go_wp2_with (first | (go_at_call 13; (with_reducible refine (rsettle_c' _ _ _ _ _).mono ?_); rintro e w1 ⟨rfl, hb1⟩; obtain ⟨hc1, hf1, hz1⟩ := bcell hb1; (try simp only [World.size_alloc, World.size_setCell, World.size_drew] at hc1 hf1 hz1)))
  refine bodyPost_ret ?_ rfl ⟨rfl, (by repeat' (first | (with_reducible exact Below.refl _ _) | (with_reducible assumption) | (with_reducible refine Below.alloc ?_ ?_ _) | (with_reducible refine Below.setCell ?_ ?_ _) | (with_reducible refine Below.drew ?_) | (with_reducible refine below_dn ?_ _) | (with_reducible refine Below.trans ?_ (Below.mono (by assumption) ?_)) | go_size))⟩
  simp only [results, Try.results16]; simp [*, go_sem, ↓IntWalk.iteOmega]; try (first | rfl | exact ⟨rfl, rfl⟩)

end Hk
