/- The reference of tnums: what is made of a value and a mask, both, Add; old memory is as it was. No condition. -/
import Derived.Test.YtigpljbfdkpopaaProg
import Derived.Test.YtigpljbfdkpopaaWd
import Derived.Test.YtigpljbfdkpopaaTn
import Derived.Test.YtigpljbfdkpopaaCr1
namespace Hk
open Go Go.RowKit Go.Proofs
set_option linter.unusedSimpArgs false
set_option linter.unusedVariables false
set_option maxRecDepth 100000
/-- What stands in memory ahead of the round k: the result's variable, and t. -/
def MadeAt (x m : BitVec 64) (w : World) (k : Nat) (wr : World) : Prop :=
  wr.cell? ⟨w.heap.size + 1, 0, none⟩ = some (.int .u64 (N (upTo x k))) ∧ wr.cell? ⟨w.heap.size + 1, 1, none⟩ = some (.int .u64 (N m)) ∧
  wr.cell? ⟨w.heap.size, 0, none⟩ = some (.int .u64 (N 0#64)) ∧ wr.cell? ⟨w.heap.size, 1, none⟩ = some (.int .u64 (N 0#64)) ∧
  (∀ o, wr.frozen? ⟨w.heap.size, o, none⟩ = false) ∧ (∀ o, wr.frozen? ⟨w.heap.size + 1, o, none⟩ = false) ∧ w.heap.size + 1 < wr.heap.size ∧ Below w.heap.size w wr
theorem bt_andn (v m : BitVec 64) (k : Nat) (hk : k < 64) : bt (v &&& ~~~m) k = (bt v k && !bt m k) := by rw [bt_and, bt_not _ _ hk]
set_option maxHeartbeats 1000000 in
theorem r_made_c (v m : BitVec 64) (w : World) : Calls Try.prog 34 #[.int .u64 (N v), .int .u64 (N m)] w fun e w' => e = .returned (.agg #[.int .u64 (N (Tn.made v m).v), .int .u64 (N (Tn.made v m).m)]) ∧ Below w.heap.size w w' := by
  have E : upTo (v &&& ~~~m) 64 = (Tn.made v m).v := upTo_all _
  have HE := Lib.hid E
  clear E
  go_enter Try.func34, Try.ntmps34
  go_wp2_with fail
  go_loopw [6] (fun i wr => ∃ k : Nat, k ≤ 64 ∧ i = .int .i64 k ∧ MadeAt (v &&& ~~~m) m w k wr) (fun i _ => 64 - (intOf i).toNat)
  case atStart =>
    refine ⟨0, by omega, rfl, ?_⟩
    unfold MadeAt
    refine ⟨?_, ?_, ?_, ?_, ?_, ?_, (by (try simp only [World.size_alloc, World.size_setCell, World.size_drew]); omega), (by repeat' (first | (with_reducible exact Below.refl _ _) | (with_reducible assumption) | (with_reducible refine Below.alloc ?_ ?_ _) | (with_reducible refine Below.setCell ?_ ?_ _) | (with_reducible refine Below.drew ?_) | (with_reducible refine Below.trans ?_ (Below.mono (by assumption) ?_)) | go_size))⟩
    all_goals first | (intro o; simp [go_sem]; done) | (simp [go_sem, upTo]; try rfl)
  case round =>
    obtain ⟨k, hk, rfl, c0, c1, c2, c3, f0, f1, hz, hb⟩ := hrel
    by_cases hlt : k < 64
    · have hx := bt_andn v m k hlt
      have HX := Lib.hid hx
      clear hx
      cases h0 : bt v k <;> cases h1 : bt m k
      case true.false =>
        go_wp2_with (first | (go_at_call 41; (with_reducible refine (bit_c _ _ _).mono ?_); rintro e w1 ⟨rfl, rfl⟩))
        go_region
        go_wp2
        go_roundw
        case rel =>
          refine ⟨k + 1, by omega, by go_num, ?_⟩
          have hx := HX.out
          rw [h0, h1] at hx
          unfold MadeAt
          refine ⟨?_, ?_, ?_, ?_, ?_, ?_, (by (try simp only [World.size_alloc, World.size_setCell, World.size_drew]); omega), (by repeat' (first | (with_reducible exact Below.refl _ _) | (with_reducible assumption) | (with_reducible refine Below.alloc ?_ ?_ _) | (with_reducible refine Below.setCell ?_ ?_ _) | (with_reducible refine Below.drew ?_) | (with_reducible refine Below.trans ?_ (Below.mono (by assumption) ?_)) | go_size))⟩
          any_goals (intro o; simp [*, go_sem, ↓IntWalk.iteOmega]; done)
          all_goals (simp [*, go_sem, ↓IntWalk.iteOmega, upTo])
        case measure => simp [intOf]; omega
      all_goals
        go_wp2_with (first | (go_at_call 41; (with_reducible refine (bit_c _ _ _).mono ?_); rintro e w1 ⟨rfl, rfl⟩))
        go_roundw
        case rel =>
          refine ⟨k + 1, by omega, by go_num, ?_⟩
          have hx := HX.out
          rw [h0, h1] at hx
          unfold MadeAt
          refine ⟨?_, ?_, ?_, ?_, ?_, ?_, (by (try simp only [World.size_alloc, World.size_setCell, World.size_drew]); omega), (by repeat' (first | (with_reducible exact Below.refl _ _) | (with_reducible assumption) | (with_reducible refine Below.alloc ?_ ?_ _) | (with_reducible refine Below.setCell ?_ ?_ _) | (with_reducible refine Below.drew ?_) | (with_reducible refine Below.trans ?_ (Below.mono (by assumption) ?_)) | go_size))⟩
          any_goals (intro o; simp [*, go_sem, ↓IntWalk.iteOmega]; done)
          all_goals (simp [*, go_sem, ↓IntWalk.iteOmega, upTo])
        case measure => simp [intOf]; omega
    · obtain rfl : k = 64 := by omega
      clear hlt
      go_wp2
      refine bodyPost_ret (v := .agg #[.int .u64 (N (Tn.made v m).v), .int .u64 (N (Tn.made v m).m)]) ?_ rfl ⟨rfl, (by repeat' (first | (with_reducible exact Below.refl _ _) | (with_reducible assumption) | (with_reducible refine Below.alloc ?_ ?_ _) | (with_reducible refine Below.setCell ?_ ?_ _) | (with_reducible refine Below.drew ?_) | (with_reducible refine Below.trans ?_ (Below.mono (by assumption) ?_)) | go_size))⟩
      simp only [results, Try.results34]; rw [← HE.out]; simp [*, go_sem, ↓IntWalk.iteOmega]; try rfl

theorem r_both_c (a b : Tn) (w : World) : Calls Try.prog 32 #[.agg #[.int .u64 (N a.v), .int .u64 (N a.m)], .agg #[.int .u64 (N b.v), .int .u64 (N b.m)]] w fun e w' => e = .returned (.bool (a.right && b.right)) ∧ Below w.heap.size w w' := by
  cases ha : a.right
  all_goals
    go_enter Try.func32, Try.ntmps32
    go_wp2_with (first | (go_at_call 23; (with_reducible refine (r_right_c ⟨_, _⟩ _).mono ?_); rintro e w1 ⟨rfl, hb1⟩; obtain ⟨hc1, hf1, hz1⟩ := bcell hb1; (try simp only [World.size_alloc, World.size_setCell, World.size_drew] at hc1 hf1 hz1)))
    go_ret
    exact ⟨rfl, (by repeat' (first | (with_reducible exact Below.refl _ _) | (with_reducible assumption) | (with_reducible refine Below.alloc ?_ ?_ _) | (with_reducible refine Below.setCell ?_ ?_ _) | (with_reducible refine Below.drew ?_) | (with_reducible refine Below.trans ?_ (Below.mono (by assumption) ?_)) | go_size))⟩

theorem r_add_c (a b : Tn) (w : World) : Calls Try.prog 33 #[.agg #[.int .u64 (N a.v), .int .u64 (N a.m)], .agg #[.int .u64 (N b.v), .int .u64 (N b.m)]] w fun e w' => e = .returned (.agg #[.int .u64 (N (Tn.add a b).v), .int .u64 (N (Tn.add a b).m)]) ∧ Below w.heap.size w w' := by
  have E : Tn.add a b = Tn.made (a.v + b.v) (((a.m + b.m + (a.v + b.v)) ^^^ (a.v + b.v)) ||| a.m ||| b.m) := by unfold Tn.add; rw [show a.v + b.v + a.m + b.m = a.m + b.m + (a.v + b.v) from by ac_rfl]
  rw [E]; clear E
  go_enter Try.func33, Try.ntmps33
  go_wp2_with (first | (go_at_call 34; (with_reducible refine (r_made_c _ _ _).mono ?_); rintro e w1 ⟨rfl, hb1⟩; obtain ⟨hc1, hf1, hz1⟩ := bcell hb1; (try simp only [World.size_alloc, World.size_setCell, World.size_drew] at hc1 hf1 hz1)))
  refine bodyPost_ret ?_ rfl ⟨rfl, (by repeat' (first | (with_reducible exact Below.refl _ _) | (with_reducible assumption) | (with_reducible refine Below.alloc ?_ ?_ _) | (with_reducible refine Below.setCell ?_ ?_ _) | (with_reducible refine Below.drew ?_) | (with_reducible refine Below.trans ?_ (Below.mono (by assumption) ?_)) | go_size))⟩
  simp only [results, Try.results33]; simp [*, go_sem, ↓IntWalk.iteOmega]; try (first | rfl | exact ⟨rfl, rfl⟩)

end Hk
