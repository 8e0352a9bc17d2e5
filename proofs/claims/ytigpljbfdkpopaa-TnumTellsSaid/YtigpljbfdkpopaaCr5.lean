/- The reference of tnums: Meet, Join; old memory is as it was. No condition. -/
import Derived.Test.YtigpljbfdkpopaaProg
import Derived.Test.YtigpljbfdkpopaaWd
import Derived.Test.YtigpljbfdkpopaaTn
import Derived.Test.YtigpljbfdkpopaaCr1
import Derived.Test.YtigpljbfdkpopaaCr2
import Derived.Test.YtigpljbfdkpopaaCr4
import Derived.Test.YtigpljbfdkpopaaLd
namespace Hk
open Go Go.RowKit Go.Proofs
set_option linter.unusedSimpArgs false
set_option linter.unusedVariables false
set_option maxRecDepth 100000
def MeetC (a b : Tn) (w : World) (w' : World) : Prop := w'.cell? ⟨w.heap.size, 0, none⟩ = some (.int .u64 (N a.v)) ∧ w'.cell? ⟨w.heap.size, 1, none⟩ = some (.int .u64 (N a.m)) ∧ w'.cell? ⟨w.heap.size + 1, 0, none⟩ = some (.int .u64 (N b.v)) ∧ w'.cell? ⟨w.heap.size + 1, 1, none⟩ = some (.int .u64 (N b.m)) ∧ w'.cell? ⟨w.heap.size + 1 + 1, 0, none⟩ = some (.int .u64 (N (Tn.mk 0#64 0#64).v)) ∧ w'.cell? ⟨w.heap.size + 1 + 1, 1, none⟩ = some (.int .u64 (N (Tn.mk 0#64 0#64).m)) ∧ (∀ i, w'.frozen? ⟨w.heap.size + 1 + 1, i, none⟩ = false) ∧ Below w.heap.size w w'
theorem MeetC_keep {a b : Tn} {w : World} (w' w1 : World) (h : MeetC a b w w') (hb : Below w'.heap.size w' w1) : MeetC a b w w1 := by
  obtain ⟨k0, k1, k2, k3, k4, k5, k6, k7⟩ := h
  exact ⟨cell_keep hb k0, cell_keep hb k1, cell_keep hb k2, cell_keep hb k3, cell_keep hb k4, cell_keep hb k5, frozen_keep hb k4 k6, below_next k7 hb⟩

set_option maxHeartbeats 4000000 in
theorem r_meet_yes (a b : Tn) (ha : a.right = true) (hb : b.right = true) (w : World) : Calls Try.prog 22 #[.agg #[.int .u64 (N a.v), .int .u64 (N a.m)], .agg #[.int .u64 (N b.v), .int .u64 (N b.m)]] w fun e w' => e = .returned (.tuple #[.agg #[.int .u64 (N (Tn.meet a b).v), .int .u64 (N (Tn.meet a b).m)], .bool (Tn.meetOk a b)]) ∧ Below w.heap.size w w' := by
  have key : (∀ j, j < 64 → (!bt a.m j && !bt b.m j && (bt a.v j != bt b.v j)) = false) → Tn.meetOk a b = true ∧ Tn.meet a b = Tn.made (a.v ||| b.v) (a.m &&& b.m)
  := fun h => by
    have e : Tn.meetOk a b = true := by
      rw [Tn.meetOk_iff]
      refine ⟨ha, hb, fun i hi h1 h2 => ?_⟩
      have h3 := h i hi
      revert h3
      rw [h1, h2]
      cases bt a.v i <;> cases bt b.v i <;> decide
    exact ⟨e, by unfold Tn.meet; rw [if_pos e]⟩
  have key2 : ∀ j, j < 64 → (!bt a.m j && !bt b.m j && (bt a.v j != bt b.v j)) = true → Tn.meetOk a b = false ∧ Tn.meet a b = ⟨0#64, 0#64⟩
  := fun j hj h => by
    have e : Tn.meetOk a b = false := by
      cases hr : Tn.meetOk a b
      · rfl
      · have h1 := ((Tn.meetOk_iff a b).1 hr).2.2 j hj
        revert h h1
        cases bt b.m j <;> cases bt a.m j <;> cases bt a.v j <;> cases bt b.v j <;> decide
    exact ⟨e, by unfold Tn.meet; rw [e]; rfl⟩
  have K1 := Lib.hid key
  have K2 := Lib.hid key2
  clear key key2
  go_enter Try.func22, Try.ntmps22
  go_wp2_with (first | (go_at_call 32; (with_reducible refine (r_both_c ⟨_, _⟩ ⟨_, _⟩ _).mono ?_); rintro e w1 ⟨rfl, hb1⟩; obtain ⟨hc1, hf1, hz1⟩ := bcell hb1; (try simp only [World.size_alloc, World.size_setCell, World.size_drew] at hc1 hf1 hz1)))
  go_loopw [6] (fun i wr => ∃ k : Nat, k ≤ 64 ∧ i = .int .i64 k ∧ Hid (∀ j, j < k → (!bt a.m j && !bt b.m j && (bt a.v j != bt b.v j)) = false) ∧ MeetC a b w wr) (fun i _ => 64 - (intOf i).toNat)
  case atStart =>
    refine ⟨0, by omega, rfl, (fun j hj => by omega), ?_⟩
    refine ⟨?_, ?_, ?_, ?_, ?_, ?_, ?_, (by repeat' (first | (with_reducible exact Below.refl _ _) | (with_reducible assumption) | (with_reducible refine Below.alloc ?_ ?_ _) | (with_reducible refine Below.setCell ?_ ?_ _) | (with_reducible refine Below.drew ?_) | (with_reducible refine Below.trans ?_ (Below.mono (by assumption) ?_)) | go_size))⟩
    all_goals first | (intro i; simp [*, go_sem, ↓IntWalk.iteOmega]; done) | (simp [*, go_sem, ↓IntWalk.iteOmega]; done)
  case round =>
    obtain ⟨k, hk, rfl, HA, k0, k1, k2, k3, k4, k5, k6, k7⟩ := hrel
    have z0 := cell_lt k0
    have z2 := cell_lt k2
    have z4 := cell_lt k4
    by_cases hlt : k < 64
    · cases h0 : bt a.m k <;> cases h1 : bt b.m k <;> cases h2 : bt a.v k <;> cases h3 : bt b.v k
      all_goals
        have q : (!bt a.m k && !bt b.m k && (bt a.v k != bt b.v k)) = (!bt a.m k && !bt b.m k && (bt a.v k != bt b.v k)) := rfl
        simp only [h0, h1, h2, h3] at q
        clear q
        go_wp2_with fail
        refine wp_region_class (MeetC a b w) (by kernel_rfl) (by kernel_rfl) ?_ ?_
        · refine ⟨?_, ?_, ?_, ?_, ?_, ?_, ?_, (by repeat' (first | (with_reducible exact Below.refl _ _) | (with_reducible assumption) | (with_reducible refine Below.alloc ?_ ?_ _) | (with_reducible refine Below.setCell ?_ ?_ _) | (with_reducible refine Below.drew ?_) | (with_reducible refine Below.trans ?_ (Below.mono (by assumption) ?_)) | go_size))⟩
          all_goals first | (intro i; simp [*, go_sem, ↓IntWalk.iteOmega]; done) | (simp [*, go_sem, ↓IntWalk.iteOmega]; done)
        intro hN
        repeat (first
          | go_big_quiet_skip
          | (go_big_quiet_want
             first
               | (refine quiet_loadT rfl rfl (fun w' hC => by obtain ⟨k0, k1, k2, k3, k4, k5, k6, k7⟩ := hC; first | exact ⟨k0, k1⟩ | exact ⟨k2, k3⟩ | exact ⟨k4, k5⟩) ?_
                  simp only [Act.put, List.setIfInBounds_toArray, List.set_cons_succ, List.set_cons_zero]
                  go_big_quiet_on)
               | (refine quiet_loadW rfl rfl (fun w' hC => by obtain ⟨k0, k1, k2, k3, k4, k5, k6, k7⟩ := hC; first | exact k0 | exact k1 | exact k2 | exact k3 | exact k4 | exact k5) ?_
                  simp only [Act.put, List.setIfInBounds_toArray, List.set_cons_succ, List.set_cons_zero]
                  go_big_quiet_on)
               | (go_big_quiet_op
                  first
                    | go_big_quiet_on
                    | (apply Exists.intro
                       refine ⟨fun w' hC => ?_, ?_⟩
                       · (first | (go_at_call 41; (with_reducible refine (bit_c _ _ _).mono ?_); rintro e w1 ⟨rfl, rfl⟩))
                         (try simp only [h0, h1, h2, h3])
                         exact ⟨rfl, by first | exact hC | exact MeetC_keep _ _ hC hb1⟩
                       go_big_quiet_on))))
        refine wpQuiet_nil ?_
        intro w9 hC
        obtain ⟨k0, k1, k2, k3, k4, k5, k6, k7⟩ := hC
        have z0 := cell_lt k0
        have z2 := cell_lt k2
        have z4 := cell_lt k4
        first
          | (go_wp2
             go_roundw
             (case rel => exact ⟨k + 1, by omega, by go_num, (fun j hj => by
               rcases Nat.lt_or_ge j k with q | q
               · exact HA.out j q
               · obtain rfl : j = k := by omega
                 simp [h0, h1, h2, h3]), k0, k1, k2, k3, k4, k5, k6, k7⟩)
             (case measure => simp [intOf]; omega))
          | (have z := K2.out k hlt (by simp [h0, h1, h2, h3])
             have Z := Lib.hid z
             clear z
             go_wp2
             refine bodyPost_ret (v := .tuple #[.agg #[.int .u64 (N (Tn.meet a b).v), .int .u64 (N (Tn.meet a b).m)], .bool (Tn.meetOk a b)]) ?_ rfl ⟨rfl, (by first | exact k7 | repeat' (first | (with_reducible exact Below.refl _ _) | (with_reducible assumption) | (with_reducible refine Below.alloc ?_ ?_ _) | (with_reducible refine Below.setCell ?_ ?_ _) | (with_reducible refine Below.drew ?_) | (with_reducible refine Below.trans ?_ (Below.mono (by assumption) ?_)) | go_size))⟩
             simp only [results, Try.results22]; rw [Z.out.1, Z.out.2]; simp [*, go_sem, ↓IntWalk.iteOmega]; try (first | rfl | exact ⟨rfl, rfl⟩ | exact ⟨⟨rfl, rfl⟩, rfl⟩))
    · have z := K1.out (fun j hj => HA.out j (by omega))
      have Z := Lib.hid z
      clear z
      go_wp2_with (first | (go_at_call 34; (with_reducible refine (r_made_c _ _ _).mono ?_); rintro e w1 ⟨rfl, hb1⟩; obtain ⟨hc1, hf1, hz1⟩ := bcell hb1; (try simp only [World.size_alloc, World.size_setCell, World.size_drew] at hc1 hf1 hz1)))
      refine bodyPost_ret (v := .tuple #[.agg #[.int .u64 (N (Tn.meet a b).v), .int .u64 (N (Tn.meet a b).m)], .bool (Tn.meetOk a b)]) ?_ rfl ⟨rfl, (by repeat' (first | (with_reducible exact Below.refl _ _) | (with_reducible assumption) | (with_reducible refine Below.alloc ?_ ?_ _) | (with_reducible refine Below.setCell ?_ ?_ _) | (with_reducible refine Below.drew ?_) | (with_reducible refine Below.trans ?_ (Below.mono (by assumption) ?_)) | go_size))⟩
      simp only [results, Try.results22]; rw [Z.out.1, Z.out.2]; simp [*, go_sem, ↓IntWalk.iteOmega]; try (first | rfl | exact ⟨rfl, rfl⟩ | exact ⟨⟨rfl, rfl⟩, rfl⟩)

theorem r_meet_no (a b : Tn) (h : (a.right && b.right) = false) (w : World) : Calls Try.prog 22 #[.agg #[.int .u64 (N a.v), .int .u64 (N a.m)], .agg #[.int .u64 (N b.v), .int .u64 (N b.m)]] w fun e w' => e = .returned (.tuple #[.agg #[.int .u64 (N (Tn.meet a b).v), .int .u64 (N (Tn.meet a b).m)], .bool (Tn.meetOk a b)]) ∧ Below w.heap.size w w' := by
  have e : Tn.meetOk a b = false := by unfold Tn.meetOk; rw [h]; rfl
  have e' : Tn.meet a b = ⟨0#64, 0#64⟩ := by unfold Tn.meet; rw [e]; rfl
  rw [e, e']
  clear e e'
  go_enter Try.func22, Try.ntmps22
  go_wp2_with (first | (go_at_call 32; (with_reducible refine (r_both_c ⟨_, _⟩ ⟨_, _⟩ _).mono ?_); rintro e w1 ⟨rfl, hb1⟩; obtain ⟨hc1, hf1, hz1⟩ := bcell hb1; (try simp only [World.size_alloc, World.size_setCell, World.size_drew] at hc1 hf1 hz1)))
  refine bodyPost_ret ?_ rfl ⟨rfl, (by repeat' (first | (with_reducible exact Below.refl _ _) | (with_reducible assumption) | (with_reducible refine Below.alloc ?_ ?_ _) | (with_reducible refine Below.setCell ?_ ?_ _) | (with_reducible refine Below.drew ?_) | (with_reducible refine Below.trans ?_ (Below.mono (by assumption) ?_)) | go_size))⟩
  simp only [results, Try.results22]; simp [*, go_sem, ↓IntWalk.iteOmega]; try (first | rfl | exact ⟨rfl, rfl⟩)

theorem r_meet_c (a b : Tn) (w : World) : Calls Try.prog 22 #[.agg #[.int .u64 (N a.v), .int .u64 (N a.m)], .agg #[.int .u64 (N b.v), .int .u64 (N b.m)]] w fun e w' => e = .returned (.tuple #[.agg #[.int .u64 (N (Tn.meet a b).v), .int .u64 (N (Tn.meet a b).m)], .bool (Tn.meetOk a b)]) ∧ Below w.heap.size w w' := by
  cases h : (a.right && b.right)
  · exact r_meet_no a b h w
  · rw [Bool.and_eq_true] at h
    exact r_meet_yes a b h.1 h.2 w

theorem r_join_c (a b : Tn) (w : World) : Calls Try.prog 26 #[.agg #[.int .u64 (N a.v), .int .u64 (N a.m)], .agg #[.int .u64 (N b.v), .int .u64 (N b.m)]] w fun e w' => e = .returned (.agg #[.int .u64 (N (Tn.join a b).v), .int .u64 (N (Tn.join a b).m)]) ∧ Below w.heap.size w w' := by
  cases ha : a.right <;> cases hb : b.right
  all_goals
    go_enter Try.func26, Try.ntmps26
    go_wp2_with (first | (go_at_call 32; (with_reducible refine (r_both_c ⟨_, _⟩ ⟨_, _⟩ _).mono ?_); rintro e w1 ⟨rfl, hb1⟩; obtain ⟨hc1, hf1, hz1⟩ := bcell hb1; (try simp only [World.size_alloc, World.size_setCell, World.size_drew] at hc1 hf1 hz1)) | (go_at_call 34; (with_reducible refine (r_made_c _ _ _).mono ?_); rintro e w1 ⟨rfl, hb1⟩; obtain ⟨hc1, hf1, hz1⟩ := bcell hb1; (try simp only [World.size_alloc, World.size_setCell, World.size_drew] at hc1 hf1 hz1)))
    refine bodyPost_ret (v := .agg #[.int .u64 (N (Tn.join a b).v), .int .u64 (N (Tn.join a b).m)]) ?_ rfl ⟨?_, (by repeat' (first | (with_reducible exact Below.refl _ _) | (with_reducible assumption) | (with_reducible refine Below.alloc ?_ ?_ _) | (with_reducible refine Below.setCell ?_ ?_ _) | (with_reducible refine Below.drew ?_) | (with_reducible refine Below.trans ?_ (Below.mono (by assumption) ?_)) | go_size))⟩
    · simp only [results, Try.results26]; simp [*, go_sem, ↓IntWalk.iteOmega]; simp [Tn.join, ha, hb]; try (first | rfl | exact ⟨rfl, rfl⟩)
    · rfl

end Hk
