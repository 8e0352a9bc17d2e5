/- The statements' own functions on spans: the document's examples stand, and what is made is a span and a number of it; old memory is as it was. No condition. -/
import Derived.Test.YtkpmhnfgldchaaaProg
import Derived.Test.YtkpmhnfgldchaaaWd
import Derived.Test.YtkpmhnfgldchaaaSpLaw
import Derived.Test.YtkpmhnfgldchaaaSp1
import Derived.Test.YtkpmhnfgldchaaaSp2
import Derived.Test.YtkpmhnfgldchaaaSp3
import Derived.Test.YtkpmhnfgldchaaaSp4
namespace Hk
open Go Go.RowKit Go.Proofs
set_option linter.unusedSimpArgs false
set_option linter.unusedVariables false
set_option maxRecDepth 100000
theorem sshown_c  (w : World) : Calls Try.prog 8 #[] w fun e w' => e = .returned (.bool true) ∧ Below w.heap.size w w' := by
  have e1 : Sp.do_ 0 ⟨1#64, 2#64⟩ ⟨3#64, 4#64⟩ = ⟨4#64, 6#64⟩ := by decide
  have e2 : Sp.if_ 160 ⟨0#64, 9#64⟩ ⟨5#64, 7#64⟩ = some ⟨0#64, 6#64⟩ := by decide
  go_enter Try.func8, Try.ntmps8
  go_wp2_with (first | (go_at_call 12; (with_reducible refine (sdo_c' _ _ _ _ _ _).mono ?_); rintro e w1 ⟨rfl, hb1⟩; obtain ⟨hc1, hf1, hz1⟩ := bcell hb1; (try simp only [World.size_alloc, World.size_setCell, World.size_drew] at hc1 hf1 hz1)) | (go_at_call 14; (with_reducible refine (sif_c' _ _ _ _ _ _).mono ?_); rintro e w1 ⟨rfl, hb1⟩; obtain ⟨hc1, hf1, hz1⟩ := bcell hb1; (try simp only [World.size_alloc, World.size_setCell, World.size_drew] at hc1 hf1 hz1)))
  go_ret
  exact ⟨rfl, (by repeat' (first | (with_reducible exact Below.refl _ _) | (with_reducible assumption) | (with_reducible refine Below.alloc ?_ ?_ _) | (with_reducible refine Below.setCell ?_ ?_ _) | (with_reducible refine Below.drew ?_) | (with_reducible refine below_dn ?_ _) | (with_reducible refine Below.trans ?_ (Below.mono (by assumption) ?_)) | go_size))⟩

theorem smade_c (a b n : BitVec 64) (w : World) : Calls Try.prog 9 #[.int .u64 (N a), .int .u64 (N b), .int .u64 (N n)] w fun e w' => e = .returned (.tuple #[.agg #[.int .u64 (N (Sp.mk2 a b).lo), .int .u64 (N (Sp.mk2 a b).hi)], .int .u64 (N (Sp.num a b n))]) ∧ Below w.heap.size w w' := by
  have q1 : Sp.mx a b - Sp.mn a b + 1#64 = Sp.len a b := rfl
  cases h : (Sp.len a b == 0#64)
  · have hn : Sp.len a b ≠ 0#64 := by simpa using h
    go_enter Try.func9, Try.ntmps9
    go_wp2
    go_region
    go_wp2
    refine bodyPost_ret (v := .tuple #[.agg #[.int .u64 (N (Sp.mk2 a b).lo), .int .u64 (N (Sp.mk2 a b).hi)], .int .u64 (N (Sp.num a b n))]) ?_ rfl ⟨rfl, (by repeat' (first | (with_reducible exact Below.refl _ _) | (with_reducible assumption) | (with_reducible refine Below.alloc ?_ ?_ _) | (with_reducible refine Below.setCell ?_ ?_ _) | (with_reducible refine Below.drew ?_) | (with_reducible refine below_dn ?_ _) | (with_reducible refine Below.trans ?_ (Below.mono (by assumption) ?_)) | go_size))⟩
    simp only [results, Try.results9]; simp [*, go_sem, ↓IntWalk.iteOmega, Sp.mk2, Sp.num]; try (first | rfl | exact ⟨rfl, rfl⟩ | exact ⟨⟨rfl, rfl⟩, rfl⟩)
  · go_enter Try.func9, Try.ntmps9
    go_wp2
    (try go_region)
    (try go_wp2)
    refine bodyPost_ret (v := .tuple #[.agg #[.int .u64 (N (Sp.mk2 a b).lo), .int .u64 (N (Sp.mk2 a b).hi)], .int .u64 (N (Sp.num a b n))]) ?_ rfl ⟨rfl, (by repeat' (first | (with_reducible exact Below.refl _ _) | (with_reducible assumption) | (with_reducible refine Below.alloc ?_ ?_ _) | (with_reducible refine Below.setCell ?_ ?_ _) | (with_reducible refine Below.drew ?_) | (with_reducible refine below_dn ?_ _) | (with_reducible refine Below.trans ?_ (Below.mono (by assumption) ?_)) | go_size))⟩
    simp only [results, Try.results9]; simp [*, go_sem, ↓IntWalk.iteOmega, Sp.mk2, Sp.num]; try (first | rfl | exact ⟨rfl, rfl⟩ | exact ⟨⟨rfl, rfl⟩, rfl⟩)

end Hk
