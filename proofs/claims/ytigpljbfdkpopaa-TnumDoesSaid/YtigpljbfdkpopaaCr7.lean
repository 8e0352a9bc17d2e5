/- The reference of tnums: mul; old memory is as it was. No condition but those in each statement. -/
import Derived.Test.YtigpljbfdkpopaaProg
import Derived.Test.YtigpljbfdkpopaaWd
import Derived.Test.YtigpljbfdkpopaaTn
import Derived.Test.YtigpljbfdkpopaaCr1
import Derived.Test.YtigpljbfdkpopaaCr2
import Derived.Test.YtigpljbfdkpopaaCr6
import Derived.Test.YtigpljbfdkpopaaLd
import Derived.StillTailTactics
namespace Hk
open Go Go.RowKit Go.Proofs
set_option linter.unusedSimpArgs false
set_option linter.unusedVariables false
set_option maxRecDepth 100000
theorem wp_region_tail {P : Program} {id : Nat} {Q : Exit → Act → World → Prop} {a : Act} {w : World} {l : List Oper} (n : Nat) (hm : P.follows .mixedOrders = true) (hB : Region.lexTailB .any l.toArray n = true)
    (h : wpStill P l.toArray w.drew (fun a' => wpList P l.toArray Q (l.drop n) a' w.drew) (l.take n) a) : (Code.region id l.toArray true).wp P Q a w := wp_region_still_tail n hm hB h

set_option maxHeartbeats 2000000 in
theorem r_mul_c (a b : Tn) (w : World) : Calls Try.prog 35 #[.agg #[.int .u64 (N a.v), .int .u64 (N a.m)], .agg #[.int .u64 (N b.v), .int .u64 (N b.m)]] w fun e w' => e = .returned (.agg #[.int .u64 (N (Tn.mul a b).v), .int .u64 (N (Tn.mul a b).m)]) ∧ Below w.heap.size w w' := by
  go_enter Try.func35, Try.ntmps35
  go_wp2_with fail
  go_loopw [6] (fun i wr => ∃ k : Nat, k ≤ 64 ∧ i = .int .i64 k ∧ LoopAt a b (Tn.mulTo a b k).v (Tn.mulTo a b k).m w wr) (fun i _ => 64 - (intOf i).toNat)
  case atStart =>
    refine ⟨0, by omega, rfl, ?_⟩
    unfold LoopAt
    refine ⟨?_, ?_, ?_, ?_, ?_, ?_, ?_, ?_, ?_, ?_, (by (try simp only [World.size_alloc, World.size_setCell, World.size_drew]); omega), (by repeat' (first | (with_reducible exact Below.refl _ _) | (with_reducible assumption) | (with_reducible refine Below.alloc ?_ ?_ _) | (with_reducible refine Below.setCell ?_ ?_ _) | (with_reducible refine Below.drew ?_) | (with_reducible refine Below.trans ?_ (Below.mono (by assumption) ?_)) | go_size))⟩
    all_goals first | (intro o; simp [go_sem]; done) | (simp [go_sem, Tn.mulTo]; try rfl)
  case round =>
    obtain ⟨k, hk, rfl, c0, c1, c2, c3, c4, c5, c6, c7, f0, f1, hz, hb⟩ := hrel
    by_cases hlt : k < 64
    · cases h1 : bt b.v k <;> cases h3 : bt b.m k
      all_goals
        go_wp2_with (first | (go_at_call 41; (with_reducible refine (bit_c _ _ _).mono ?_); rintro e w1 ⟨rfl, rfl⟩))
        try
          first
            | refine wp_region_tail (id := 8) 9 (by kernel_rfl) (by kernel_rfl) ?_
            | refine wp_region_tail (id := 6) 10 (by kernel_rfl) (by kernel_rfl) ?_
          have HD : LoopAt a b (Tn.mulTo a b k).v (Tn.mulTo a b k).m w wr.drew := ⟨c0, c1, c2, c3, c4, c5, c6, c7, f0, f1, hz, Below.drew hb⟩
          clear c0 c1 c2 c3 c4 c5 c6 c7 f0 f1 hz hb
          generalize wr.drew = w2 at HD ⊢
          obtain ⟨c0, c1, c2, c3, c4, c5, c6, c7, f0, f1, hz, hb⟩ := HD
          simp only [List.take_succ_cons, List.take_zero, List.drop_succ_cons, List.drop_zero]
          repeat still_step
          try refine wpStill_nil ?_
          go_wp2_with (first | (go_at_call 33; (with_reducible refine (r_add_c ⟨_, _⟩ ⟨_, _⟩ _).mono ?_); rintro e w1 ⟨rfl, hb1⟩; obtain ⟨hc1, hf1, hz1⟩ := bcell hb1; (try simp only [World.size_alloc, World.size_setCell, World.size_drew] at hc1 hf1 hz1)))
        refine ⟨?rel, ?measure⟩
        case rel =>
          refine ⟨k + 1, by omega, by go_num, ?_⟩
          unfold LoopAt
          refine ⟨?_, ?_, ?_, ?_, ?_, ?_, ?_, ?_, ?_, ?_, (by (try simp only [World.size_alloc, World.size_setCell, World.size_drew]); omega), (by repeat' (first | (with_reducible exact Below.refl _ _) | (with_reducible assumption) | (with_reducible refine Below.alloc ?_ ?_ _) | (with_reducible refine Below.setCell ?_ ?_ _) | (with_reducible refine Below.drew ?_) | (with_reducible refine Below.trans ?_ (Below.mono (by assumption) ?_)) | go_size))⟩
          any_goals (intro o; simp [*, go_sem, ↓IntWalk.iteOmega]; done)
          all_goals (simp [*, go_sem, ↓IntWalk.iteOmega, Tn.mulTo])
        case measure => simp [intOf]; omega
    · obtain rfl : k = 64 := by omega
      clear hlt
      go_wp2
      refine bodyPost_ret (v := .agg #[.int .u64 (N (Tn.mul a b).v), .int .u64 (N (Tn.mul a b).m)]) ?_ rfl ⟨rfl, (by repeat' (first | (with_reducible exact Below.refl _ _) | (with_reducible assumption) | (with_reducible refine Below.alloc ?_ ?_ _) | (with_reducible refine Below.setCell ?_ ?_ _) | (with_reducible refine Below.drew ?_) | (with_reducible refine Below.trans ?_ (Below.mono (by assumption) ?_)) | go_size))⟩
      simp only [results, Try.results35]; simp [*, go_sem, ↓IntWalk.iteOmega, Tn.mul]; try rfl

end Hk
