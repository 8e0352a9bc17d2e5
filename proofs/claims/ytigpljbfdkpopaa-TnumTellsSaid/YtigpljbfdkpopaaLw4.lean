/- The statements' own functions: the document's examples stand, and what is made may be; old memory is as it was. No condition. -/
import Derived.Test.YtigpljbfdkpopaaProg
import Derived.Test.YtigpljbfdkpopaaWd
import Derived.Test.YtigpljbfdkpopaaTnDo
import Derived.Test.YtigpljbfdkpopaaCt1
import Derived.Test.YtigpljbfdkpopaaCt2
import Derived.Test.YtigpljbfdkpopaaCt6
namespace Hk
open Go Go.RowKit Go.Proofs
set_option linter.unusedSimpArgs false
set_option linter.unusedVariables false
set_option maxRecDepth 100000
theorem shown_c  (w : World) : Calls Try.prog 12 #[] w fun e w' => e = .returned (.bool true) ∧ Below w.heap.size w w' := by
  have e1 : Tn.do_ 0 (Tn.of 1#64) ⟨0#64, 2#64⟩ = some ⟨1#64, 2#64⟩ := by decide
  have e2 : Tn.do_ 80 ⟨0#64, 3#64⟩ (Tn.of 1#64) = some ⟨0#64, 1#64⟩ := by decide
  have e3 : Tn.meetOk (Tn.of 1#64) (Tn.of 2#64) = false := by decide
  go_enter Try.func12, Try.ntmps12
  go_wp2_with (first | (go_at_call 20; (with_reducible refine (of_c _ _).mono ?_); rintro e w1 ⟨rfl, hb1⟩; obtain ⟨hc1, hf1, hz1⟩ := bcell hb1; (try simp only [World.size_alloc, World.size_setCell, World.size_drew] at hc1 hf1 hz1)) | (go_at_call 10; (with_reducible refine (do_c _ ⟨_, _⟩ ⟨_, _⟩ _).mono ?_); rintro e w1 ⟨rfl, hb1⟩; obtain ⟨hc1, hf1, hz1⟩ := bcell hb1; (try simp only [World.size_alloc, World.size_setCell, World.size_drew] at hc1 hf1 hz1)) | (go_at_call 19; (with_reducible refine (meet_c ⟨_, _⟩ ⟨_, _⟩ _).mono ?_); rintro e w1 ⟨rfl, hb1⟩; obtain ⟨hc1, hf1, hz1⟩ := bcell hb1; (try simp only [World.size_alloc, World.size_setCell, World.size_drew] at hc1 hf1 hz1)))
  go_ret
  exact ⟨rfl, (by repeat' (first | (with_reducible exact Below.refl _ _) | (with_reducible assumption) | (with_reducible refine Below.alloc ?_ ?_ _) | (with_reducible refine Below.setCell ?_ ?_ _) | (with_reducible refine Below.drew ?_) | (with_reducible refine Below.trans ?_ (Below.mono (by assumption) ?_)) | go_size))⟩

theorem lmade_c (v m n : BitVec 64) (w : World) : Calls Try.prog 13 #[.int .u64 (N v), .int .u64 (N m), .int .u64 (N n)] w fun e w' => e = .returned (.tuple #[.agg #[.int .u64 (N (Tn.made v m).v), .int .u64 (N (Tn.made v m).m)], .int .u64 (N (Tn.num v m n))]) ∧ Below w.heap.size w w' := by
  go_enter Try.func13, Try.ntmps13
  go_wp2
  refine bodyPost_ret (v := .tuple #[.agg #[.int .u64 (N (Tn.made v m).v), .int .u64 (N (Tn.made v m).m)], .int .u64 (N (Tn.num v m n))]) ?_ rfl ⟨rfl, (by repeat' (first | (with_reducible exact Below.refl _ _) | (with_reducible assumption) | (with_reducible refine Below.alloc ?_ ?_ _) | (with_reducible refine Below.setCell ?_ ?_ _) | (with_reducible refine Below.drew ?_) | (with_reducible refine Below.trans ?_ (Below.mono (by assumption) ?_)) | go_size))⟩
  simp only [results, Try.results13]; simp [*, go_sem, ↓IntWalk.iteOmega]; try (first | rfl | exact ⟨rfl, rfl⟩ | exact ⟨⟨rfl, rfl⟩, rfl⟩)

end Hk
