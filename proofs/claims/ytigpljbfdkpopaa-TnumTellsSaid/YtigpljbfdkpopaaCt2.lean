/- Package tnum: what is known, joined, met and cut is what the plain functions on tnums say; old memory is as it was. No condition but those in each statement. -/
import Derived.Test.YtigpljbfdkpopaaProg
import Derived.Test.YtigpljbfdkpopaaWd
import Derived.Test.YtigpljbfdkpopaaTn
import Derived.Test.YtigpljbfdkpopaaCt1
namespace Hk
open Go Go.RowKit Go.Proofs
set_option linter.unusedSimpArgs false
set_option linter.unusedVariables false
set_option maxRecDepth 100000
theorem has_c (a : Tn) (n : BitVec 64) (w : World) : Calls Try.prog 16 #[.agg #[.int .u64 (N a.v), .int .u64 (N a.m)], .int .u64 (N n)] w fun e w' => e = .returned (.bool (a.has n)) ∧ Below w.heap.size w w' := by
  cases ha : a.right
  all_goals
    go_enter Try.func16, Try.ntmps16
    go_wp2_with (first | (go_at_call 15; (with_reducible refine (right_c ⟨_, _⟩ _).mono ?_); rintro e w1 ⟨rfl, hb1⟩; obtain ⟨hc1, hf1, hz1⟩ := bcell hb1; (try simp only [World.size_alloc, World.size_setCell, World.size_drew] at hc1 hf1 hz1)))
    go_ret
    exact ⟨by simp [Tn.has, ha], (by repeat' (first | (with_reducible exact Below.refl _ _) | (with_reducible assumption) | (with_reducible refine Below.alloc ?_ ?_ _) | (with_reducible refine Below.setCell ?_ ?_ _) | (with_reducible refine Below.drew ?_) | (with_reducible refine Below.trans ?_ (Below.mono (by assumption) ?_)) | go_size))⟩

theorem within_c (a b : Tn) (w : World) : Calls Try.prog 18 #[.agg #[.int .u64 (N a.v), .int .u64 (N a.m)], .agg #[.int .u64 (N b.v), .int .u64 (N b.m)]] w fun e w' => e = .returned (.bool (a.within b)) ∧ Below w.heap.size w w' := by
  cases ha : a.right <;> cases hb : b.right <;> cases hm : (a.m &&& ~~~b.m == 0#64)
  all_goals
    go_enter Try.func18, Try.ntmps18
    go_wp2_with (first | (go_at_call 28; (with_reducible refine (both_c ⟨_, _⟩ ⟨_, _⟩ _).mono ?_); rintro e w1 ⟨rfl, hb1⟩; obtain ⟨hc1, hf1, hz1⟩ := bcell hb1; (try simp only [World.size_alloc, World.size_setCell, World.size_drew] at hc1 hf1 hz1)))
    go_ret
    exact ⟨by simp [Tn.within, ha, hb, hm], (by repeat' (first | (with_reducible exact Below.refl _ _) | (with_reducible assumption) | (with_reducible refine Below.alloc ?_ ?_ _) | (with_reducible refine Below.setCell ?_ ?_ _) | (with_reducible refine Below.drew ?_) | (with_reducible refine Below.trans ?_ (Below.mono (by assumption) ?_)) | go_size))⟩

theorem join_c (a b : Tn) (w : World) : Calls Try.prog 17 #[.agg #[.int .u64 (N a.v), .int .u64 (N a.m)], .agg #[.int .u64 (N b.v), .int .u64 (N b.m)]] w fun e w' => e = .returned (.agg #[.int .u64 (N (Tn.join a b).v), .int .u64 (N (Tn.join a b).m)]) ∧ Below w.heap.size w w' := by
  cases ha : a.right <;> cases hb : b.right
  all_goals
    go_enter Try.func17, Try.ntmps17
    go_wp2_with (first | (go_at_call 28; (with_reducible refine (both_c ⟨_, _⟩ ⟨_, _⟩ _).mono ?_); rintro e w1 ⟨rfl, hb1⟩; obtain ⟨hc1, hf1, hz1⟩ := bcell hb1; (try simp only [World.size_alloc, World.size_setCell, World.size_drew] at hc1 hf1 hz1)) | (go_at_call 30; (with_reducible refine (made_c _ _ _).mono ?_); rintro e w1 ⟨rfl, hb1⟩; obtain ⟨hc1, hf1, hz1⟩ := bcell hb1; (try simp only [World.size_alloc, World.size_setCell, World.size_drew] at hc1 hf1 hz1)))
    refine bodyPost_ret (v := .agg #[.int .u64 (N (Tn.join a b).v), .int .u64 (N (Tn.join a b).m)]) ?_ rfl ⟨?_, (by repeat' (first | (with_reducible exact Below.refl _ _) | (with_reducible assumption) | (with_reducible refine Below.alloc ?_ ?_ _) | (with_reducible refine Below.setCell ?_ ?_ _) | (with_reducible refine Below.drew ?_) | (with_reducible refine Below.trans ?_ (Below.mono (by assumption) ?_)) | go_size))⟩
    · simp only [results, Try.results17]; simp [*, go_sem, ↓IntWalk.iteOmega]; simp [Tn.join, ha, hb]; try (first | rfl | exact ⟨rfl, rfl⟩)
    · rfl

theorem meet_c (a b : Tn) (w : World) : Calls Try.prog 19 #[.agg #[.int .u64 (N a.v), .int .u64 (N a.m)], .agg #[.int .u64 (N b.v), .int .u64 (N b.m)]] w fun e w' => e = .returned (.tuple #[.agg #[.int .u64 (N (Tn.meet a b).v), .int .u64 (N (Tn.meet a b).m)], .bool (Tn.meetOk a b)]) ∧ Below w.heap.size w w' := by
  cases ha : a.right <;> cases hb : b.right <;> cases hm : ((a.v ^^^ b.v) &&& ~~~(a.m ||| b.m) == 0#64)
  all_goals
    go_enter Try.func19, Try.ntmps19
    go_wp2_with (first | (go_at_call 28; (with_reducible refine (both_c ⟨_, _⟩ ⟨_, _⟩ _).mono ?_); rintro e w1 ⟨rfl, hb1⟩; obtain ⟨hc1, hf1, hz1⟩ := bcell hb1; (try simp only [World.size_alloc, World.size_setCell, World.size_drew] at hc1 hf1 hz1)) | (go_at_call 30; (with_reducible refine (made_c _ _ _).mono ?_); rintro e w1 ⟨rfl, hb1⟩; obtain ⟨hc1, hf1, hz1⟩ := bcell hb1; (try simp only [World.size_alloc, World.size_setCell, World.size_drew] at hc1 hf1 hz1)))
    refine bodyPost_ret (v := .tuple #[.agg #[.int .u64 (N (Tn.meet a b).v), .int .u64 (N (Tn.meet a b).m)], .bool (Tn.meetOk a b)]) ?_ rfl ⟨?_, (by repeat' (first | (with_reducible exact Below.refl _ _) | (with_reducible assumption) | (with_reducible refine Below.alloc ?_ ?_ _) | (with_reducible refine Below.setCell ?_ ?_ _) | (with_reducible refine Below.drew ?_) | (with_reducible refine Below.trans ?_ (Below.mono (by assumption) ?_)) | go_size))⟩
    · simp only [results, Try.results19]; simp [*, go_sem, ↓IntWalk.iteOmega]; simp [Tn.meet, Tn.meetOk, ha, hb, hm]; try (first | rfl | exact ⟨rfl, rfl⟩)
    · rfl

theorem cut_no1 (t : Tn) (k : Int) (hr : t.right = false) (w : World) : Calls Try.prog 21 #[.agg #[.int .u64 (N t.v), .int .u64 (N t.m)], .int .i64 k] w fun e w' => e = .returned (.agg #[.int .u64 (N (Tn.cutI t k).v), .int .u64 (N (Tn.cutI t k).m)]) ∧ Below w.heap.size w w' := by
  go_enter Try.func21, Try.ntmps21
  go_wp2_with (first | (go_at_call 15; (with_reducible refine (right_c ⟨_, _⟩ _).mono ?_); rintro e w1 ⟨rfl, hb1⟩; obtain ⟨hc1, hf1, hz1⟩ := bcell hb1; (try simp only [World.size_alloc, World.size_setCell, World.size_drew] at hc1 hf1 hz1)))
  refine bodyPost_ret (v := .agg #[.int .u64 (N (Tn.cutI t k).v), .int .u64 (N (Tn.cutI t k).m)]) ?_ rfl ⟨rfl, (by repeat' (first | (with_reducible exact Below.refl _ _) | (with_reducible assumption) | (with_reducible refine Below.alloc ?_ ?_ _) | (with_reducible refine Below.setCell ?_ ?_ _) | (with_reducible refine Below.drew ?_) | (with_reducible refine Below.trans ?_ (Below.mono (by assumption) ?_)) | go_size))⟩
  rw [Tn.cutI_no hr]
  simp only [results, Try.results21]; simp [*, go_sem, ↓IntWalk.iteOmega]; try (first | rfl | exact ⟨rfl, rfl⟩)

theorem cut_out1 (t : Tn) (k : Int) (hr : t.right = true) (h : k < 1) (w : World) : Calls Try.prog 21 #[.agg #[.int .u64 (N t.v), .int .u64 (N t.m)], .int .i64 k] w fun e w' => e = .returned (.agg #[.int .u64 (N (Tn.cutI t k).v), .int .u64 (N (Tn.cutI t k).m)]) ∧ Below w.heap.size w w' := by
  go_enter Try.func21, Try.ntmps21
  go_wp2_with (first | (go_at_call 15; (with_reducible refine (right_c ⟨_, _⟩ _).mono ?_); rintro e w1 ⟨rfl, hb1⟩; obtain ⟨hc1, hf1, hz1⟩ := bcell hb1; (try simp only [World.size_alloc, World.size_setCell, World.size_drew] at hc1 hf1 hz1)))
  refine bodyPost_ret (v := .agg #[.int .u64 (N (Tn.cutI t k).v), .int .u64 (N (Tn.cutI t k).m)]) ?_ rfl ⟨rfl, (by repeat' (first | (with_reducible exact Below.refl _ _) | (with_reducible assumption) | (with_reducible refine Below.alloc ?_ ?_ _) | (with_reducible refine Below.setCell ?_ ?_ _) | (with_reducible refine Below.drew ?_) | (with_reducible refine Below.trans ?_ (Below.mono (by assumption) ?_)) | go_size))⟩
  rw [Tn.cutI_out hr (.inl h)]
  simp only [results, Try.results21]; simp [*, go_sem, ↓IntWalk.iteOmega]; try (first | rfl | exact ⟨rfl, rfl⟩)

theorem cut_out2 (t : Tn) (k : Int) (hr : t.right = true) (h : 63 < k) (w : World) : Calls Try.prog 21 #[.agg #[.int .u64 (N t.v), .int .u64 (N t.m)], .int .i64 k] w fun e w' => e = .returned (.agg #[.int .u64 (N (Tn.cutI t k).v), .int .u64 (N (Tn.cutI t k).m)]) ∧ Below w.heap.size w w' := by
  have h2 : ¬ k < 1 := by omega
  go_enter Try.func21, Try.ntmps21
  go_wp2_with (first | (go_at_call 15; (with_reducible refine (right_c ⟨_, _⟩ _).mono ?_); rintro e w1 ⟨rfl, hb1⟩; obtain ⟨hc1, hf1, hz1⟩ := bcell hb1; (try simp only [World.size_alloc, World.size_setCell, World.size_drew] at hc1 hf1 hz1)))
  refine bodyPost_ret (v := .agg #[.int .u64 (N (Tn.cutI t k).v), .int .u64 (N (Tn.cutI t k).m)]) ?_ rfl ⟨rfl, (by repeat' (first | (with_reducible exact Below.refl _ _) | (with_reducible assumption) | (with_reducible refine Below.alloc ?_ ?_ _) | (with_reducible refine Below.setCell ?_ ?_ _) | (with_reducible refine Below.drew ?_) | (with_reducible refine Below.trans ?_ (Below.mono (by assumption) ?_)) | go_size))⟩
  rw [Tn.cutI_out hr (.inr h)]
  simp only [results, Try.results21]; simp [*, go_sem, ↓IntWalk.iteOmega]; try (first | rfl | exact ⟨rfl, rfl⟩)

theorem cut_in (t : Tn) (k : Int) (hr : t.right = true) (h0 : 1 ≤ k) (h1 : k ≤ 63) (w : World) : Calls Try.prog 21 #[.agg #[.int .u64 (N t.v), .int .u64 (N t.m)], .int .i64 k] w fun e w' => e = .returned (.agg #[.int .u64 (N (Tn.cutI t k).v), .int .u64 (N (Tn.cutI t k).m)]) ∧ Below w.heap.size w w' := by
  have h2 : ¬ k < 1 := by omega
  have h3 : ¬ 63 < k := by omega
  have h4 : 0 ≤ k := by omega
  go_enter Try.func21, Try.ntmps21
  go_wp2_with (first | (go_at_call 15; (with_reducible refine (right_c ⟨_, _⟩ _).mono ?_); rintro e w1 ⟨rfl, hb1⟩; obtain ⟨hc1, hf1, hz1⟩ := bcell hb1; (try simp only [World.size_alloc, World.size_setCell, World.size_drew] at hc1 hf1 hz1)))
  refine bodyPost_ret (v := .agg #[.int .u64 (N (Tn.cutI t k).v), .int .u64 (N (Tn.cutI t k).m)]) ?_ rfl ⟨rfl, (by repeat' (first | (with_reducible exact Below.refl _ _) | (with_reducible assumption) | (with_reducible refine Below.alloc ?_ ?_ _) | (with_reducible refine Below.setCell ?_ ?_ _) | (with_reducible refine Below.drew ?_) | (with_reducible refine Below.trans ?_ (Below.mono (by assumption) ?_)) | go_size))⟩
  rw [Tn.cutI_in hr h0 h1]
  simp only [results, Try.results21]; simp [*, go_sem, ↓IntWalk.iteOmega]; try (first | rfl | exact ⟨rfl, rfl⟩)

theorem cut_c (t : Tn) (k : Int) (w : World) : Calls Try.prog 21 #[.agg #[.int .u64 (N t.v), .int .u64 (N t.m)], .int .i64 k] w fun e w' => e = .returned (.agg #[.int .u64 (N (Tn.cutI t k).v), .int .u64 (N (Tn.cutI t k).m)]) ∧ Below w.heap.size w w' := by
  cases hr : t.right
  · exact cut_no1 t k hr w
  by_cases h0 : k < 1
  · exact cut_out1 t k hr h0 w
  by_cases h1 : 63 < k
  · exact cut_out2 t k hr h1 w
  exact cut_in t k hr (by omega) (by omega) w

end Hk
