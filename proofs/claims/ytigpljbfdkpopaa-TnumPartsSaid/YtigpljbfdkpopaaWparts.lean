/- The statement TnumParts of the Go text: it returns true, and old memory is as it was; a plain law and a walk. No condition. -/
import Derived.Test.YtigpljbfdkpopaaProg
import Derived.Test.YtigpljbfdkpopaaWd
import Derived.Test.YtigpljbfdkpopaaLw4
namespace Hk
open Go Go.RowKit Go.Proofs
set_option linter.unusedSimpArgs false
set_option linter.unusedVariables false
set_option maxRecDepth 100000
theorem parts_plain (v m q k n o : BitVec 64) :
    (Tn.join (Tn.made v m) (Tn.made q k)).has (Tn.num v m n) = true ∧ (Tn.made v m).within (Tn.join (Tn.made v m) (Tn.made q k)) = true ∧ (Tn.made q k).within (Tn.join (Tn.made v m) (Tn.made q k)) = true ∧
    ((Tn.made v m).within (Tn.made q k) = true → (Tn.made q k).has (Tn.num v m n) = true) ∧
    (((Tn.made v m).has o && (Tn.made q k).has o) = (Tn.meetOk (Tn.made v m) (Tn.made q k) && (Tn.meet (Tn.made v m) (Tn.made q k)).has o)) ∧
    (Tn.meetOk (Tn.made v m) (Tn.made q k) = true → (Tn.meet (Tn.made v m) (Tn.made q k)).within (Tn.made v m) = true ∧ (Tn.meet (Tn.made v m) (Tn.made q k)).within (Tn.made q k) = true) := by
  have ra := Tn.right_made v m
  have rb := Tn.right_made q k
  have hx := Tn.has_num v m n
  exact ⟨Tn.has_within (Tn.within_join_l ra rb) hx, Tn.within_join_l ra rb, Tn.within_join_r ra rb, fun h => Tn.has_within h hx, Tn.meet_has _ _ o, fun h => ⟨Tn.meet_within_l h, Tn.meet_within_r h⟩⟩
set_option maxHeartbeats 2000000 in
theorem tnumParts_walk (v m q k n o : BitVec 64) (w : World) : Calls Try.prog 6 #[.int .u64 (N v), .int .u64 (N m), .int .u64 (N q), .int .u64 (N k), .int .u64 (N n), .int .u64 (N o)] w fun e w' => e = .returned (.bool true) ∧ Below w.heap.size w w' := by
  obtain ⟨e1, e2, e3, e4, e5, e6⟩ := parts_plain v m q k n o
  cases hp : (Tn.made v m).within (Tn.made q k) <;> cases hq : (Tn.made v m).has o <;> cases hr : (Tn.made q k).has o <;> cases ht : (Tn.meet (Tn.made v m) (Tn.made q k)).has o <;> cases hk : Tn.meetOk (Tn.made v m) (Tn.made q k)
  all_goals rw [hp] at e4
  all_goals rw [hq, hr, ht, hk] at e5
  all_goals rw [hk] at e6
  all_goals first
    | (exfalso; revert e5; decide)
    | (clear e5
       simp only [true_implies, Bool.false_eq_true, false_implies] at e4 e6
       (try obtain ⟨e7, e8⟩ := e6)
       go_enter Try.func6, Try.ntmps6
       go_wp2_with (first | (go_at_call 12; (with_reducible refine (shown_c _).mono ?_); rintro e w1 ⟨rfl, hb1⟩; obtain ⟨hc1, hf1, hz1⟩ := bcell hb1; (try simp only [World.size_alloc, World.size_setCell, World.size_drew] at hc1 hf1 hz1)) | (go_at_call 13; (with_reducible refine (lmade_c _ _ _ _).mono ?_); rintro e w1 ⟨rfl, hb1⟩; obtain ⟨hc1, hf1, hz1⟩ := bcell hb1; (try simp only [World.size_alloc, World.size_setCell, World.size_drew] at hc1 hf1 hz1)) | (go_at_call 17; (with_reducible refine (join_c ⟨_, _⟩ ⟨_, _⟩ _).mono ?_); rintro e w1 ⟨rfl, hb1⟩; obtain ⟨hc1, hf1, hz1⟩ := bcell hb1; (try simp only [World.size_alloc, World.size_setCell, World.size_drew] at hc1 hf1 hz1)) | (go_at_call 19; (with_reducible refine (meet_c ⟨_, _⟩ ⟨_, _⟩ _).mono ?_); rintro e w1 ⟨rfl, hb1⟩; obtain ⟨hc1, hf1, hz1⟩ := bcell hb1; (try simp only [World.size_alloc, World.size_setCell, World.size_drew] at hc1 hf1 hz1)) | (go_at_call 16; (with_reducible refine (has_c ⟨_, _⟩ _ _).mono ?_); rintro e w1 ⟨rfl, hb1⟩; obtain ⟨hc1, hf1, hz1⟩ := bcell hb1; (try simp only [World.size_alloc, World.size_setCell, World.size_drew] at hc1 hf1 hz1)) | (go_at_call 18; (with_reducible refine (within_c ⟨_, _⟩ ⟨_, _⟩ _).mono ?_); rintro e w1 ⟨rfl, hb1⟩; obtain ⟨hc1, hf1, hz1⟩ := bcell hb1; (try simp only [World.size_alloc, World.size_setCell, World.size_drew] at hc1 hf1 hz1)))
       go_ret
       exact ⟨rfl, (by repeat' (first | (with_reducible exact Below.refl _ _) | (with_reducible assumption) | (with_reducible refine Below.alloc ?_ ?_ _) | (with_reducible refine Below.setCell ?_ ?_ _) | (with_reducible refine Below.drew ?_) | (with_reducible refine Below.trans ?_ (Below.mono (by assumption) ?_)) | go_size))⟩)

end Hk
