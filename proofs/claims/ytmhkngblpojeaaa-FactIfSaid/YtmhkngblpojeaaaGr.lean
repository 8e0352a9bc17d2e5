/- Loads of Tnums and of words in a region that draws its order: their value is the cells'. No condition but those in each statement. The reference of tnums: its bit, and whether a tnum is right; old memory is as it was. No condition. The reference of tnums: what is made of a value and a mask, both, Add; old memory is as it was. No condition. The reference of tnums: Has; old memory is as it was. No condition. The reference of tnums: Within; old memory is as it was. No condition. The reference of tnums: Meet, Join; old memory is as it was. No condition. The reference of tnums: Cut, and; old memory is as it was. No condition but those in each statement. The reference of tnums: mul; old memory is as it was. No condition but those in each statement. The reference of tnums: Do, its first ways. No condition but those in each statement. The reference of tnums: Do, its other ways. No condition but those in each statement. The reference of tnums: Do returns what the plain function on tnums says; old memory is as it was. No condition but those in each statement. The reference of tnums: the contracts with each struct given by its words. No condition. -/
import Derived.Test.YtmhkngblpojeaaaProg
import Derived.Test.YtmhkngblpojeaaaGp
import Derived.Test.YtmhkngblpojeaaaGq
import Derived.StillTailTactics
namespace Hk
open Go Go.RowKit Go.Proofs
set_option linter.unusedSimpArgs false
set_option linter.unusedVariables false
set_option maxRecDepth 100000
theorem run_loadT (ρ : Operand → Value) (o : Oper) (x : Operand) (b : Nat) (c0 c1 : Value) (ho : o.op = .load 25 x) (hx : ρ x = .pointer (some ⟨b, 0, none⟩)) (w : World)
    (h0 : w.cell? ⟨b, 0, none⟩ = some c0) (h1 : w.cell? ⟨b, 1, none⟩ = some c1) : (execOp ρ o).run Try.prog w = .ok (.value (.agg #[c0, c1])) w := by
  obtain ⟨dst, op, type, pos, after, guard⟩ := o
  simp only at ho
  subst ho
  go_simp
theorem quiet_loadT {o : Oper} {a : Act} {C : World → Prop} {K : Act → Prop} {x : Operand} {b : Nat} {c0 c1 : Value} (ho : o.op = .load 25 x) (hx : a.eval x = .pointer (some ⟨b, 0, none⟩))
    (h : ∀ w, C w → w.cell? ⟨b, 0, none⟩ = some c0 ∧ w.cell? ⟨b, 1, none⟩ = some c1) (hk : K (a.put o.dst (.agg #[c0, c1]))) : o.quiet Try.prog a C K :=
  quiet_mk (v := .agg #[c0, c1]) (fun w hC => by unfold Oper.quietAt; rw [run_loadT _ o x b c0 c1 ho hx w (h w hC).1 (h w hC).2]; exact ⟨rfl, rfl⟩) hk
theorem run_loadW (ρ : Operand → Value) (o : Oper) (x : Operand) (b i : Nat) (c0 : Value) (ho : o.op = .load 23 x) (hx : ρ x = .pointer (some ⟨b, i, none⟩)) (w : World)
    (h0 : w.cell? ⟨b, i, none⟩ = some c0) : (execOp ρ o).run Try.prog w = .ok (.value c0) w := by
  obtain ⟨dst, op, type, pos, after, guard⟩ := o
  simp only at ho
  subst ho
  go_simp
theorem quiet_loadW {o : Oper} {a : Act} {C : World → Prop} {K : Act → Prop} {x : Operand} {b i : Nat} {c0 : Value} (ho : o.op = .load 23 x) (hx : a.eval x = .pointer (some ⟨b, i, none⟩))
    (h : ∀ w, C w → w.cell? ⟨b, i, none⟩ = some c0) (hk : K (a.put o.dst c0)) : o.quiet Try.prog a C K :=
  quiet_mk (v := c0) (fun w hC => by unfold Oper.quietAt; rw [run_loadW _ o x b i c0 ho hx w (h w hC)]; exact ⟨rfl, rfl⟩) hk

end Hk

namespace Hk
open Go Go.RowKit Go.Proofs
set_option linter.unusedSimpArgs false
set_option linter.unusedVariables false
set_option maxRecDepth 100000
attribute [go_sem] Tn.eta
theorem bit_c (n : BitVec 64) (k : Nat) (w : World) : Calls Try.prog 78 #[.int .u64 (N n), .int .i64 (k : Int)] w fun e w' => e = .returned (.bool (bt n k)) ∧ w = w' := by
  go_enter Try.func78, Try.ntmps78
  go_wp2
  go_ret
  exact ⟨by simp only [Int.toNat_natCast]; exact congrArg (fun b => Ending.returned (.bool b)) (bit_mod n k), rfl⟩

theorem r_right_c (a : Tn) (w : World) : Calls Try.prog 38 #[.agg #[.int .u64 (N a.v), .int .u64 (N a.m)]] w fun e w' => e = .returned (.bool a.right) ∧ Below w.heap.size w w' := by
  have key : (∀ j, j < 64 → (bt a.v j && bt a.m j) = false) → a.right = true := fun h => (Tn.right_iff a).2 h
  have key2 : ∀ j, j < 64 → (bt a.v j && bt a.m j) = true → a.right = false := fun j hj h => by
    cases hr : a.right
    · rfl
    · rw [(Tn.right_iff a).1 hr j hj] at h; cases h
  have K1 := Lib.hid key
  have K2 := Lib.hid key2
  clear key key2
  go_enter Try.func38, Try.ntmps38
  go_wp2_with fail
  go_loop [3] (fun i => ∃ k : Nat, k ≤ 64 ∧ i = .int .i64 k ∧ Hid (∀ j, j < k → (bt a.v j && bt a.m j) = false)) (fun i => 64 - (intOf i).toNat)
  case atStart => exact ⟨0, by omega, rfl, fun j hj => by omega⟩
  case round =>
    obtain ⟨k, hk, rfl, HA⟩ := hrel
    by_cases hlt : k < 64
    · cases h0 : bt a.v k <;> cases h1 : bt a.m k
      case true.true =>
        go_wp2_with (first | (go_at_call 78; (with_reducible refine (bit_c _ _ _).mono ?_); rintro e w1 ⟨rfl, rfl⟩))
        go_ret
        exact ⟨by rw [K2.out k hlt (by rw [h0, h1]; rfl)]; rfl, (by repeat' (first | (with_reducible exact Below.refl _ _) | (with_reducible assumption) | (with_reducible refine Below.alloc ?_ ?_ _) | (with_reducible refine Below.setCell ?_ ?_ _) | (with_reducible refine Below.drew ?_) | (with_reducible refine below_dn ?_ _) | (with_reducible refine Below.trans ?_ (Below.mono (by assumption) ?_)) | go_size))⟩
      all_goals
        go_wp2_with (first | (go_at_call 78; (with_reducible refine (bit_c _ _ _).mono ?_); rintro e w1 ⟨rfl, rfl⟩))
        go_round
        case rel => exact ⟨k + 1, by omega, by go_num, fun j hj => by
          rcases Nat.lt_or_ge j k with q | q
          · exact HA.out j q
          · obtain rfl : j = k := by omega
            simp [h0, h1]⟩
        case measure => simp [intOf]; omega
    · go_wp2
      go_ret
      exact ⟨by rw [K1.out (fun j hj => HA.out j (by omega))]; rfl, (by repeat' (first | (with_reducible exact Below.refl _ _) | (with_reducible assumption) | (with_reducible refine Below.alloc ?_ ?_ _) | (with_reducible refine Below.setCell ?_ ?_ _) | (with_reducible refine Below.drew ?_) | (with_reducible refine below_dn ?_ _) | (with_reducible refine Below.trans ?_ (Below.mono (by assumption) ?_)) | go_size))⟩

end Hk

namespace Hk
open Go Go.RowKit Go.Proofs
set_option linter.unusedSimpArgs false
set_option linter.unusedVariables false
set_option maxRecDepth 100000
/-- What stands in memory ahead of the round k: the result's variable, and t. -/
def MadeAt (x m : BitVec 64) (w : World) (k : Nat) (wr : World) : Prop :=
  wr.cell? ⟨w.heap.size + 1, 0, none⟩ = some (.int .u64 (N (upTo x k))) ∧ wr.cell? ⟨w.heap.size + 1, 1, none⟩ = some (.int .u64 (N m)) ∧
  wr.cell? ⟨w.heap.size, 0, none⟩ = some (.int .u64 (N 0#64)) ∧ wr.cell? ⟨w.heap.size, 1, none⟩ = some (.int .u64 (N 0#64)) ∧
  (∀ o, wr.frozen? ⟨w.heap.size, o, none⟩ = false) ∧ (∀ o, wr.frozen? ⟨w.heap.size + 1, o, none⟩ = false) ∧ w.heap.size + 1 < wr.heap.size ∧ Below w.heap.size w wr
theorem bt_andn (v m : BitVec 64) (k : Nat) (hk : k < 64) : bt (v &&& ~~~m) k = (bt v k && !bt m k) := by rw [bt_and, bt_not _ _ hk]
set_option maxHeartbeats 1000000 in
theorem r_made_c (v m : BitVec 64) (w : World) : Calls Try.prog 95 #[.int .u64 (N v), .int .u64 (N m)] w fun e w' => e = .returned (.agg #[.int .u64 (N (Tn.made v m).v), .int .u64 (N (Tn.made v m).m)]) ∧ Below w.heap.size w w' := by
  have E : upTo (v &&& ~~~m) 64 = (Tn.made v m).v := upTo_all _
  have HE := Lib.hid E
  clear E
  go_enter Try.func95, Try.ntmps95
  go_wp2_with fail
  go_loopw [6] (fun i wr => ∃ k : Nat, k ≤ 64 ∧ i = .int .i64 k ∧ MadeAt (v &&& ~~~m) m w k wr) (fun i _ => 64 - (intOf i).toNat)
  case atStart =>
    refine ⟨0, by omega, rfl, ?_⟩
    unfold MadeAt
    refine ⟨?_, ?_, ?_, ?_, ?_, ?_, (by (try simp only [World.size_alloc, World.size_setCell, World.size_drew]); omega), (by repeat' (first | (with_reducible exact Below.refl _ _) | (with_reducible assumption) | (with_reducible refine Below.alloc ?_ ?_ _) | (with_reducible refine Below.setCell ?_ ?_ _) | (with_reducible refine Below.drew ?_) | (with_reducible refine below_dn ?_ _) | (with_reducible refine Below.trans ?_ (Below.mono (by assumption) ?_)) | go_size))⟩
    all_goals first | (intro o; simp [go_sem]; done) | (simp [go_sem, upTo]; try rfl)
  case round =>
    obtain ⟨k, hk, rfl, c0, c1, c2, c3, f0, f1, hz, hb⟩ := hrel
    by_cases hlt : k < 64
    · have hx := bt_andn v m k hlt
      have HX := Lib.hid hx
      clear hx
      cases h0 : bt v k <;> cases h1 : bt m k
      case true.false =>
        go_wp2_with (first | (go_at_call 78; (with_reducible refine (bit_c _ _ _).mono ?_); rintro e w1 ⟨rfl, rfl⟩))
        go_region
        go_wp2
        go_roundw
        case rel =>
          refine ⟨k + 1, by omega, by go_num, ?_⟩
          have hx := HX.out
          rw [h0, h1] at hx
          unfold MadeAt
          refine ⟨?_, ?_, ?_, ?_, ?_, ?_, (by (try simp only [World.size_alloc, World.size_setCell, World.size_drew]); omega), (by repeat' (first | (with_reducible exact Below.refl _ _) | (with_reducible assumption) | (with_reducible refine Below.alloc ?_ ?_ _) | (with_reducible refine Below.setCell ?_ ?_ _) | (with_reducible refine Below.drew ?_) | (with_reducible refine below_dn ?_ _) | (with_reducible refine Below.trans ?_ (Below.mono (by assumption) ?_)) | go_size))⟩
          any_goals (intro o; simp [*, go_sem, ↓IntWalk.iteOmega]; done)
          all_goals (simp [*, go_sem, ↓IntWalk.iteOmega, upTo])
        case measure => simp [intOf]; omega
      all_goals
        go_wp2_with (first | (go_at_call 78; (with_reducible refine (bit_c _ _ _).mono ?_); rintro e w1 ⟨rfl, rfl⟩))
        go_roundw
        case rel =>
          refine ⟨k + 1, by omega, by go_num, ?_⟩
          have hx := HX.out
          rw [h0, h1] at hx
          unfold MadeAt
          refine ⟨?_, ?_, ?_, ?_, ?_, ?_, (by (try simp only [World.size_alloc, World.size_setCell, World.size_drew]); omega), (by repeat' (first | (with_reducible exact Below.refl _ _) | (with_reducible assumption) | (with_reducible refine Below.alloc ?_ ?_ _) | (with_reducible refine Below.setCell ?_ ?_ _) | (with_reducible refine Below.drew ?_) | (with_reducible refine below_dn ?_ _) | (with_reducible refine Below.trans ?_ (Below.mono (by assumption) ?_)) | go_size))⟩
          any_goals (intro o; simp [*, go_sem, ↓IntWalk.iteOmega]; done)
          all_goals (simp [*, go_sem, ↓IntWalk.iteOmega, upTo])
        case measure => simp [intOf]; omega
    · obtain rfl : k = 64 := by omega
      clear hlt
      go_wp2
      refine bodyPost_ret (v := .agg #[.int .u64 (N (Tn.made v m).v), .int .u64 (N (Tn.made v m).m)]) ?_ rfl ⟨rfl, (by repeat' (first | (with_reducible exact Below.refl _ _) | (with_reducible assumption) | (with_reducible refine Below.alloc ?_ ?_ _) | (with_reducible refine Below.setCell ?_ ?_ _) | (with_reducible refine Below.drew ?_) | (with_reducible refine below_dn ?_ _) | (with_reducible refine Below.trans ?_ (Below.mono (by assumption) ?_)) | go_size))⟩
      simp only [results, Try.results95]; rw [← HE.out]; simp [*, go_sem, ↓IntWalk.iteOmega]; try rfl

theorem r_both_c (a b : Tn) (w : World) : Calls Try.prog 94 #[.agg #[.int .u64 (N a.v), .int .u64 (N a.m)], .agg #[.int .u64 (N b.v), .int .u64 (N b.m)]] w fun e w' => e = .returned (.bool (a.right && b.right)) ∧ Below w.heap.size w w' := by
  cases ha : a.right
  all_goals
    go_enter Try.func94, Try.ntmps94
    go_wp2_with (first | (go_at_call 38; (with_reducible refine (r_right_c ⟨_, _⟩ _).mono ?_); rintro e w1 ⟨rfl, hb1⟩; obtain ⟨hc1, hf1, hz1⟩ := bcell hb1; (try simp only [World.size_alloc, World.size_setCell, World.size_drew] at hc1 hf1 hz1)))
    go_ret
    exact ⟨rfl, (by repeat' (first | (with_reducible exact Below.refl _ _) | (with_reducible assumption) | (with_reducible refine Below.alloc ?_ ?_ _) | (with_reducible refine Below.setCell ?_ ?_ _) | (with_reducible refine Below.drew ?_) | (with_reducible refine below_dn ?_ _) | (with_reducible refine Below.trans ?_ (Below.mono (by assumption) ?_)) | go_size))⟩

theorem r_add_c (a b : Tn) (w : World) : Calls Try.prog 111 #[.agg #[.int .u64 (N a.v), .int .u64 (N a.m)], .agg #[.int .u64 (N b.v), .int .u64 (N b.m)]] w fun e w' => e = .returned (.agg #[.int .u64 (N (Tn.add a b).v), .int .u64 (N (Tn.add a b).m)]) ∧ Below w.heap.size w w' := by
  have E : Tn.add a b = Tn.made (a.v + b.v) (((a.m + b.m + (a.v + b.v)) ^^^ (a.v + b.v)) ||| a.m ||| b.m) := by unfold Tn.add; rw [show a.v + b.v + a.m + b.m = a.m + b.m + (a.v + b.v) from by ac_rfl]
  rw [E]; clear E
  go_enter Try.func111, Try.ntmps111
  go_wp2_with (first | (go_at_call 95; (with_reducible refine (r_made_c _ _ _).mono ?_); rintro e w1 ⟨rfl, hb1⟩; obtain ⟨hc1, hf1, hz1⟩ := bcell hb1; (try simp only [World.size_alloc, World.size_setCell, World.size_drew] at hc1 hf1 hz1)))
  refine bodyPost_ret ?_ rfl ⟨rfl, (by repeat' (first | (with_reducible exact Below.refl _ _) | (with_reducible assumption) | (with_reducible refine Below.alloc ?_ ?_ _) | (with_reducible refine Below.setCell ?_ ?_ _) | (with_reducible refine Below.drew ?_) | (with_reducible refine below_dn ?_ _) | (with_reducible refine Below.trans ?_ (Below.mono (by assumption) ?_)) | go_size))⟩
  simp only [results, Try.results111]; simp [*, go_sem, ↓IntWalk.iteOmega]; try (first | rfl | exact ⟨rfl, rfl⟩)

end Hk

namespace Hk
open Go Go.RowKit Go.Proofs
set_option linter.unusedSimpArgs false
set_option linter.unusedVariables false
set_option maxRecDepth 100000
theorem r_has_c (t : Tn) (n : BitVec 64) (w : World) : Calls Try.prog 58 #[.agg #[.int .u64 (N t.v), .int .u64 (N t.m)], .int .u64 (N n)] w fun e w' => e = .returned (.bool (t.has n)) ∧ Below w.heap.size w w' := by
  have key : (∀ j, j < 64 → (!bt t.m j && (bt t.v j != bt n j)) = false) → t.has n = t.right
  := fun h => by
    cases hr : t.right
    · unfold Tn.has; rw [hr]; rfl
    · rw [Tn.has_iff]; intro i hi
      have h1 := h i hi
      have h2 := (Tn.right_iff t).1 hr i hi
      revert h1 h2
      cases bt t.m i <;> cases bt t.v i <;> cases bt n i <;> decide
  have key2 : ∀ j, j < 64 → (!bt t.m j && (bt t.v j != bt n j)) = true → t.has n = false
  := fun j hj h => by
    cases hr : t.has n
    · rfl
    · have h1 := (Tn.has_iff t n).1 hr j hj
      revert h h1
      cases bt t.m j <;> cases bt t.v j <;> cases bt n j <;> decide
  have K1 := Lib.hid key
  have K2 := Lib.hid key2
  clear key key2
  go_enter Try.func58, Try.ntmps58
  go_wp2_with fail
  go_loop [5] (fun i => ∃ k : Nat, k ≤ 64 ∧ i = .int .i64 k ∧ Hid (∀ j, j < k → (!bt t.m j && (bt t.v j != bt n j)) = false)) (fun i => 64 - (intOf i).toNat)
  case atStart => exact ⟨0, by omega, rfl, fun j hj => by omega⟩
  case round =>
    obtain ⟨k, hk, rfl, HA⟩ := hrel
    by_cases hlt : k < 64
    · cases h0 : bt t.m k <;> cases h1 : bt t.v k <;> cases h2 : bt n k
      all_goals first
        | (have q : (!bt t.m k && (bt t.v k != bt n k)) = false := by simp only [h0, h1, h2]; rfl
           clear q
           go_wp2_with (first | (go_at_call 78; (with_reducible refine (bit_c _ _ _).mono ?_); rintro e w1 ⟨rfl, rfl⟩))
           go_round
           (case rel => exact ⟨k + 1, by omega, by go_num, fun j hj => by
             rcases Nat.lt_or_ge j k with q | q
             · exact HA.out j q
             · obtain rfl : j = k := by omega
               simp [h0, h1, h2]⟩)
           (case measure => simp [intOf]; omega))
        | (have z := K2.out k hlt (by simp only [h0, h1, h2]; rfl)
           have Z := Lib.hid z
           clear z
           go_wp2_with (first | (go_at_call 78; (with_reducible refine (bit_c _ _ _).mono ?_); rintro e w1 ⟨rfl, rfl⟩))
           go_ret
           exact ⟨by rw [Z.out]; rfl, (by repeat' (first | (with_reducible exact Below.refl _ _) | (with_reducible assumption) | (with_reducible refine Below.alloc ?_ ?_ _) | (with_reducible refine Below.setCell ?_ ?_ _) | (with_reducible refine Below.drew ?_) | (with_reducible refine below_dn ?_ _) | (with_reducible refine Below.trans ?_ (Below.mono (by assumption) ?_)) | go_size))⟩)
    · go_wp2_with (first | (go_at_call 38; (with_reducible refine (r_right_c ⟨_, _⟩ _).mono ?_); rintro e w1 ⟨rfl, hb1⟩; obtain ⟨hc1, hf1, hz1⟩ := bcell hb1; (try simp only [World.size_alloc, World.size_setCell, World.size_drew] at hc1 hf1 hz1)))
      go_ret
      exact ⟨by rw [K1.out (fun j hj => HA.out j (by omega))]; rfl, (by repeat' (first | (with_reducible exact Below.refl _ _) | (with_reducible assumption) | (with_reducible refine Below.alloc ?_ ?_ _) | (with_reducible refine Below.setCell ?_ ?_ _) | (with_reducible refine Below.drew ?_) | (with_reducible refine below_dn ?_ _) | (with_reducible refine Below.trans ?_ (Below.mono (by assumption) ?_)) | go_size))⟩

end Hk

namespace Hk
open Go Go.RowKit Go.Proofs
set_option linter.unusedSimpArgs false
set_option linter.unusedVariables false
set_option maxRecDepth 100000
def WithinC (a b : Tn) (w : World) (w' : World) : Prop := w'.cell? ⟨w.heap.size, 0, none⟩ = some (.int .u64 (N a.v)) ∧ w'.cell? ⟨w.heap.size, 1, none⟩ = some (.int .u64 (N a.m)) ∧ w'.cell? ⟨w.heap.size + 1, 0, none⟩ = some (.int .u64 (N b.v)) ∧ w'.cell? ⟨w.heap.size + 1, 1, none⟩ = some (.int .u64 (N b.m)) ∧ Below w.heap.size w w'
theorem WithinC_keep {a b : Tn} {w : World} (w' w1 : World) (h : WithinC a b w w') (hb : Below w'.heap.size w' w1) : WithinC a b w w1 := by
  obtain ⟨k0, k1, k2, k3, k4⟩ := h
  exact ⟨cell_keep hb k0, cell_keep hb k1, cell_keep hb k2, cell_keep hb k3, below_next k4 hb⟩

set_option maxHeartbeats 4000000 in
theorem r_within_c (a b : Tn) (w : World) : Calls Try.prog 65 #[.agg #[.int .u64 (N a.v), .int .u64 (N a.m)], .agg #[.int .u64 (N b.v), .int .u64 (N b.m)]] w fun e w' => e = .returned (.bool (a.within b)) ∧ Below w.heap.size w w' := by
  have key : (∀ j, j < 64 → (!bt b.m j && (bt a.m j || (bt a.v j != bt b.v j))) = false) → a.within b = (a.right && b.right)
  := fun h => by
    cases ha : a.right
    · unfold Tn.within; rw [ha]; rfl
    · cases hb : b.right
      · unfold Tn.within; rw [hb]; simp
      · rw [Bool.and_self, Tn.within_iff]
        refine ⟨ha, hb, fun i hi hm => ?_⟩
        have h1 := h i hi
        revert h1
        rw [hm]
        cases bt a.m i <;> cases bt a.v i <;> cases bt b.v i <;> decide
  have key2 : ∀ j, j < 64 → (!bt b.m j && (bt a.m j || (bt a.v j != bt b.v j))) = true → a.within b = false
  := fun j hj h => by
    cases hr : a.within b
    · rfl
    · have h1 := ((Tn.within_iff a b).1 hr).2.2 j hj
      revert h h1
      cases bt b.m j <;> cases bt a.m j <;> cases bt a.v j <;> cases bt b.v j <;> decide
  have K1 := Lib.hid key
  have K2 := Lib.hid key2
  clear key key2
  go_enter Try.func65, Try.ntmps65
  go_wp2_with fail
  go_loopw [5] (fun i wr => ∃ k : Nat, k ≤ 64 ∧ i = .int .i64 k ∧ Hid (∀ j, j < k → (!bt b.m j && (bt a.m j || (bt a.v j != bt b.v j))) = false) ∧ WithinC a b w wr) (fun i _ => 64 - (intOf i).toNat)
  case atStart =>
    refine ⟨0, by omega, rfl, (fun j hj => by omega), ?_⟩
    refine ⟨?_, ?_, ?_, ?_, (by repeat' (first | (with_reducible exact Below.refl _ _) | (with_reducible assumption) | (with_reducible refine Below.alloc ?_ ?_ _) | (with_reducible refine Below.setCell ?_ ?_ _) | (with_reducible refine Below.drew ?_) | (with_reducible refine below_dn ?_ _) | (with_reducible refine Below.trans ?_ (Below.mono (by assumption) ?_)) | go_size))⟩
    all_goals first | (intro i; simp [*, go_sem, ↓IntWalk.iteOmega]; done) | (simp [*, go_sem, ↓IntWalk.iteOmega]; done)
  case round =>
    obtain ⟨k, hk, rfl, HA, k0, k1, k2, k3, k4⟩ := hrel
    have z0 := cell_lt k0
    have z2 := cell_lt k2
    by_cases hlt : k < 64
    · cases h0 : bt b.m k <;> cases h1 : bt a.m k <;> cases h2 : bt a.v k <;> cases h3 : bt b.v k
      all_goals
        have q : (!bt b.m k && (bt a.m k || (bt a.v k != bt b.v k))) = (!bt b.m k && (bt a.m k || (bt a.v k != bt b.v k))) := rfl
        simp only [h0, h1, h2, h3] at q
        clear q
        go_wp2_with fail
        refine wp_region_class (WithinC a b w) (by kernel_rfl) (by kernel_rfl) ?_ ?_
        · refine ⟨?_, ?_, ?_, ?_, (by repeat' (first | (with_reducible exact Below.refl _ _) | (with_reducible assumption) | (with_reducible refine Below.alloc ?_ ?_ _) | (with_reducible refine Below.setCell ?_ ?_ _) | (with_reducible refine Below.drew ?_) | (with_reducible refine below_dn ?_ _) | (with_reducible refine Below.trans ?_ (Below.mono (by assumption) ?_)) | go_size))⟩
          all_goals first | (intro i; simp [*, go_sem, ↓IntWalk.iteOmega]; done) | (simp [*, go_sem, ↓IntWalk.iteOmega]; done)
        intro hN
        (try simp only [List.append])
        repeat (first
          | go_big_quiet_skip
          | (go_big_quiet_want
             first
               | (refine quiet_loadT rfl rfl (fun w' hC => by obtain ⟨k0, k1, k2, k3, k4⟩ := hC; first | exact ⟨k0, k1⟩ | exact ⟨k2, k3⟩) ?_
                  simp only [Act.put, List.setIfInBounds_toArray, List.set_cons_succ, List.set_cons_zero]
                  go_big_quiet_on)
               | (refine quiet_loadW rfl rfl (fun w' hC => by obtain ⟨k0, k1, k2, k3, k4⟩ := hC; first | exact k0 | exact k1 | exact k2 | exact k3) ?_
                  simp only [Act.put, List.setIfInBounds_toArray, List.set_cons_succ, List.set_cons_zero]
                  go_big_quiet_on)
               | (go_big_quiet_op
                  first
                    | go_big_quiet_on
                    | (apply Exists.intro
                       refine ⟨fun w' hC => ?_, ?_⟩
                       · (first | (go_at_call 78; (with_reducible refine (bit_c _ _ _).mono ?_); rintro e w1 ⟨rfl, rfl⟩))
                         (try simp only [h0, h1, h2, h3])
                         exact ⟨rfl, by first | exact hC | exact WithinC_keep _ _ hC hb1⟩
                       go_big_quiet_on))))
        refine wpQuiet_nil ?_
        intro w9 hC
        obtain ⟨k0, k1, k2, k3, k4⟩ := hC
        have z0 := cell_lt k0
        have z2 := cell_lt k2
        first
          | (go_wp2
             go_roundw
             (case rel => exact ⟨k + 1, by omega, by go_num, (fun j hj => by
               rcases Nat.lt_or_ge j k with q | q
               · exact HA.out j q
               · obtain rfl : j = k := by omega
                 simp [h0, h1, h2, h3]), k0, k1, k2, k3, k4⟩)
             (case measure => simp [intOf]; omega))
          | (have z := K2.out k hlt (by simp [h0, h1, h2, h3])
             have Z := Lib.hid z
             clear z
             go_wp2
             go_ret
             exact ⟨by rw [Z.out]; rfl, k4⟩)
    · go_wp2_with (first | (go_at_call 94; (with_reducible refine (r_both_c ⟨_, _⟩ ⟨_, _⟩ _).mono ?_); rintro e w1 ⟨rfl, hb1⟩; obtain ⟨hc1, hf1, hz1⟩ := bcell hb1; (try simp only [World.size_alloc, World.size_setCell, World.size_drew] at hc1 hf1 hz1)))
      go_ret
      exact ⟨by rw [K1.out (fun j hj => HA.out j (by omega))]; rfl, below_next k4 hb1⟩

end Hk

namespace Hk
open Go Go.RowKit Go.Proofs
set_option linter.unusedSimpArgs false
set_option linter.unusedVariables false
set_option maxRecDepth 100000
def MeetC (a b : Tn) (w : World) (w' : World) : Prop := w'.cell? ⟨w.heap.size, 0, none⟩ = some (.int .u64 (N a.v)) ∧ w'.cell? ⟨w.heap.size, 1, none⟩ = some (.int .u64 (N a.m)) ∧ w'.cell? ⟨w.heap.size + 1, 0, none⟩ = some (.int .u64 (N b.v)) ∧ w'.cell? ⟨w.heap.size + 1, 1, none⟩ = some (.int .u64 (N b.m)) ∧ w'.cell? ⟨w.heap.size + 1 + 1, 0, none⟩ = some (.int .u64 (N (Tn.mk 0#64 0#64).v)) ∧ w'.cell? ⟨w.heap.size + 1 + 1, 1, none⟩ = some (.int .u64 (N (Tn.mk 0#64 0#64).m)) ∧ (∀ i, w'.frozen? ⟨w.heap.size + 1 + 1, i, none⟩ = false) ∧ Below w.heap.size w w'
theorem MeetC_keep {a b : Tn} {w : World} (w' w1 : World) (h : MeetC a b w w') (hb : Below w'.heap.size w' w1) : MeetC a b w w1 := by
  obtain ⟨k0, k1, k2, k3, k4, k5, k6, k7⟩ := h
  exact ⟨cell_keep hb k0, cell_keep hb k1, cell_keep hb k2, cell_keep hb k3, cell_keep hb k4, cell_keep hb k5, frozen_keep hb k4 k6, below_next k7 hb⟩

set_option maxHeartbeats 4000000 in
theorem r_meet_yes (a b : Tn) (ha : a.right = true) (hb : b.right = true) (w : World) : Calls Try.prog 74 #[.agg #[.int .u64 (N a.v), .int .u64 (N a.m)], .agg #[.int .u64 (N b.v), .int .u64 (N b.m)]] w fun e w' => e = .returned (.tuple #[.agg #[.int .u64 (N (Tn.meet a b).v), .int .u64 (N (Tn.meet a b).m)], .bool (Tn.meetOk a b)]) ∧ Below w.heap.size w w' := by
  have key : (∀ j, j < 64 → (!bt a.m j && !bt b.m j && (bt a.v j != bt b.v j)) = false) → Tn.meetOk a b = true ∧ Tn.meet a b = Tn.made (a.v ||| b.v) (a.m &&& b.m)
  := fun h => by
    have e : Tn.meetOk a b = true := by
      rw [Tn.meetOk_iff]
      refine ⟨ha, hb, fun i hi h1 h2 => ?_⟩
      have h3 := h i hi
      revert h3
      rw [h1, h2]
      cases bt a.v i <;> cases bt b.v i <;> decide
    exact ⟨e, by unfold Tn.meet; rw [if_pos e]⟩
  have key2 : ∀ j, j < 64 → (!bt a.m j && !bt b.m j && (bt a.v j != bt b.v j)) = true → Tn.meetOk a b = false ∧ Tn.meet a b = ⟨0#64, 0#64⟩
  := fun j hj h => by
    have e : Tn.meetOk a b = false := by
      cases hr : Tn.meetOk a b
      · rfl
      · have h1 := ((Tn.meetOk_iff a b).1 hr).2.2 j hj
        revert h h1
        cases bt b.m j <;> cases bt a.m j <;> cases bt a.v j <;> cases bt b.v j <;> decide
    exact ⟨e, by unfold Tn.meet; rw [e]; rfl⟩
  have K1 := Lib.hid key
  have K2 := Lib.hid key2
  clear key key2
  go_enter Try.func74, Try.ntmps74
  go_wp2_with (first | (go_at_call 94; (with_reducible refine (r_both_c ⟨_, _⟩ ⟨_, _⟩ _).mono ?_); rintro e w1 ⟨rfl, hb1⟩; obtain ⟨hc1, hf1, hz1⟩ := bcell hb1; (try simp only [World.size_alloc, World.size_setCell, World.size_drew] at hc1 hf1 hz1)))
  go_loopw [6] (fun i wr => ∃ k : Nat, k ≤ 64 ∧ i = .int .i64 k ∧ Hid (∀ j, j < k → (!bt a.m j && !bt b.m j && (bt a.v j != bt b.v j)) = false) ∧ MeetC a b w wr) (fun i _ => 64 - (intOf i).toNat)
  case atStart =>
    refine ⟨0, by omega, rfl, (fun j hj => by omega), ?_⟩
    refine ⟨?_, ?_, ?_, ?_, ?_, ?_, ?_, (by repeat' (first | (with_reducible exact Below.refl _ _) | (with_reducible assumption) | (with_reducible refine Below.alloc ?_ ?_ _) | (with_reducible refine Below.setCell ?_ ?_ _) | (with_reducible refine Below.drew ?_) | (with_reducible refine below_dn ?_ _) | (with_reducible refine Below.trans ?_ (Below.mono (by assumption) ?_)) | go_size))⟩
    all_goals first | (intro i; simp [*, go_sem, ↓IntWalk.iteOmega]; done) | (simp [*, go_sem, ↓IntWalk.iteOmega]; done)
  case round =>
    obtain ⟨k, hk, rfl, HA, k0, k1, k2, k3, k4, k5, k6, k7⟩ := hrel
    have z0 := cell_lt k0
    have z2 := cell_lt k2
    have z4 := cell_lt k4
    by_cases hlt : k < 64
    · cases h0 : bt a.m k <;> cases h1 : bt b.m k <;> cases h2 : bt a.v k <;> cases h3 : bt b.v k
      all_goals
        have q : (!bt a.m k && !bt b.m k && (bt a.v k != bt b.v k)) = (!bt a.m k && !bt b.m k && (bt a.v k != bt b.v k)) := rfl
        simp only [h0, h1, h2, h3] at q
        clear q
        go_wp2_with fail
        refine wp_region_class (MeetC a b w) (by kernel_rfl) (by kernel_rfl) ?_ ?_
        · refine ⟨?_, ?_, ?_, ?_, ?_, ?_, ?_, (by repeat' (first | (with_reducible exact Below.refl _ _) | (with_reducible assumption) | (with_reducible refine Below.alloc ?_ ?_ _) | (with_reducible refine Below.setCell ?_ ?_ _) | (with_reducible refine Below.drew ?_) | (with_reducible refine below_dn ?_ _) | (with_reducible refine Below.trans ?_ (Below.mono (by assumption) ?_)) | go_size))⟩
          all_goals first | (intro i; simp [*, go_sem, ↓IntWalk.iteOmega]; done) | (simp [*, go_sem, ↓IntWalk.iteOmega]; done)
        intro hN
        (try simp only [List.append])
        repeat (first
          | go_big_quiet_skip
          | (go_big_quiet_want
             first
               | (refine quiet_loadT rfl rfl (fun w' hC => by obtain ⟨k0, k1, k2, k3, k4, k5, k6, k7⟩ := hC; first | exact ⟨k0, k1⟩ | exact ⟨k2, k3⟩ | exact ⟨k4, k5⟩) ?_
                  simp only [Act.put, List.setIfInBounds_toArray, List.set_cons_succ, List.set_cons_zero]
                  go_big_quiet_on)
               | (refine quiet_loadW rfl rfl (fun w' hC => by obtain ⟨k0, k1, k2, k3, k4, k5, k6, k7⟩ := hC; first | exact k0 | exact k1 | exact k2 | exact k3 | exact k4 | exact k5) ?_
                  simp only [Act.put, List.setIfInBounds_toArray, List.set_cons_succ, List.set_cons_zero]
                  go_big_quiet_on)
               | (go_big_quiet_op
                  first
                    | go_big_quiet_on
                    | (apply Exists.intro
                       refine ⟨fun w' hC => ?_, ?_⟩
                       · (first | (go_at_call 78; (with_reducible refine (bit_c _ _ _).mono ?_); rintro e w1 ⟨rfl, rfl⟩))
                         (try simp only [h0, h1, h2, h3])
                         exact ⟨rfl, by first | exact hC | exact MeetC_keep _ _ hC hb1⟩
                       go_big_quiet_on))))
        refine wpQuiet_nil ?_
        intro w9 hC
        obtain ⟨k0, k1, k2, k3, k4, k5, k6, k7⟩ := hC
        have z0 := cell_lt k0
        have z2 := cell_lt k2
        have z4 := cell_lt k4
        first
          | (go_wp2
             go_roundw
             (case rel => exact ⟨k + 1, by omega, by go_num, (fun j hj => by
               rcases Nat.lt_or_ge j k with q | q
               · exact HA.out j q
               · obtain rfl : j = k := by omega
                 simp [h0, h1, h2, h3]), k0, k1, k2, k3, k4, k5, k6, k7⟩)
             (case measure => simp [intOf]; omega))
          | (have z := K2.out k hlt (by simp [h0, h1, h2, h3])
             have Z := Lib.hid z
             clear z
             go_wp2
             refine bodyPost_ret (v := .tuple #[.agg #[.int .u64 (N (Tn.meet a b).v), .int .u64 (N (Tn.meet a b).m)], .bool (Tn.meetOk a b)]) ?_ rfl ⟨rfl, (by first | exact k7 | repeat' (first | (with_reducible exact Below.refl _ _) | (with_reducible assumption) | (with_reducible refine Below.alloc ?_ ?_ _) | (with_reducible refine Below.setCell ?_ ?_ _) | (with_reducible refine Below.drew ?_) | (with_reducible refine below_dn ?_ _) | (with_reducible refine Below.trans ?_ (Below.mono (by assumption) ?_)) | go_size))⟩
             simp only [results, Try.results74]; rw [Z.out.1, Z.out.2]; simp [*, go_sem, ↓IntWalk.iteOmega]; try (first | rfl | exact ⟨rfl, rfl⟩ | exact ⟨⟨rfl, rfl⟩, rfl⟩))
    · have z := K1.out (fun j hj => HA.out j (by omega))
      have Z := Lib.hid z
      clear z
      go_wp2_with (first | (go_at_call 95; (with_reducible refine (r_made_c _ _ _).mono ?_); rintro e w1 ⟨rfl, hb1⟩; obtain ⟨hc1, hf1, hz1⟩ := bcell hb1; (try simp only [World.size_alloc, World.size_setCell, World.size_drew] at hc1 hf1 hz1)))
      refine bodyPost_ret (v := .tuple #[.agg #[.int .u64 (N (Tn.meet a b).v), .int .u64 (N (Tn.meet a b).m)], .bool (Tn.meetOk a b)]) ?_ rfl ⟨rfl, (by repeat' (first | (with_reducible exact Below.refl _ _) | (with_reducible assumption) | (with_reducible refine Below.alloc ?_ ?_ _) | (with_reducible refine Below.setCell ?_ ?_ _) | (with_reducible refine Below.drew ?_) | (with_reducible refine below_dn ?_ _) | (with_reducible refine Below.trans ?_ (Below.mono (by assumption) ?_)) | go_size))⟩
      simp only [results, Try.results74]; rw [Z.out.1, Z.out.2]; simp [*, go_sem, ↓IntWalk.iteOmega]; try (first | rfl | exact ⟨rfl, rfl⟩ | exact ⟨⟨rfl, rfl⟩, rfl⟩)

theorem r_meet_no (a b : Tn) (h : (a.right && b.right) = false) (w : World) : Calls Try.prog 74 #[.agg #[.int .u64 (N a.v), .int .u64 (N a.m)], .agg #[.int .u64 (N b.v), .int .u64 (N b.m)]] w fun e w' => e = .returned (.tuple #[.agg #[.int .u64 (N (Tn.meet a b).v), .int .u64 (N (Tn.meet a b).m)], .bool (Tn.meetOk a b)]) ∧ Below w.heap.size w w' := by
  have e : Tn.meetOk a b = false := by unfold Tn.meetOk; rw [h]; rfl
  have e' : Tn.meet a b = ⟨0#64, 0#64⟩ := by unfold Tn.meet; rw [e]; rfl
  rw [e, e']
  clear e e'
  go_enter Try.func74, Try.ntmps74
  go_wp2_with (first | (go_at_call 94; (with_reducible refine (r_both_c ⟨_, _⟩ ⟨_, _⟩ _).mono ?_); rintro e w1 ⟨rfl, hb1⟩; obtain ⟨hc1, hf1, hz1⟩ := bcell hb1; (try simp only [World.size_alloc, World.size_setCell, World.size_drew] at hc1 hf1 hz1)))
  refine bodyPost_ret ?_ rfl ⟨rfl, (by repeat' (first | (with_reducible exact Below.refl _ _) | (with_reducible assumption) | (with_reducible refine Below.alloc ?_ ?_ _) | (with_reducible refine Below.setCell ?_ ?_ _) | (with_reducible refine Below.drew ?_) | (with_reducible refine below_dn ?_ _) | (with_reducible refine Below.trans ?_ (Below.mono (by assumption) ?_)) | go_size))⟩
  simp only [results, Try.results74]; simp [*, go_sem, ↓IntWalk.iteOmega]; try (first | rfl | exact ⟨rfl, rfl⟩)

theorem r_meet_c (a b : Tn) (w : World) : Calls Try.prog 74 #[.agg #[.int .u64 (N a.v), .int .u64 (N a.m)], .agg #[.int .u64 (N b.v), .int .u64 (N b.m)]] w fun e w' => e = .returned (.tuple #[.agg #[.int .u64 (N (Tn.meet a b).v), .int .u64 (N (Tn.meet a b).m)], .bool (Tn.meetOk a b)]) ∧ Below w.heap.size w w' := by
  cases h : (a.right && b.right)
  · exact r_meet_no a b h w
  · rw [Bool.and_eq_true] at h
    exact r_meet_yes a b h.1 h.2 w

theorem r_join_c (a b : Tn) (w : World) : Calls Try.prog 61 #[.agg #[.int .u64 (N a.v), .int .u64 (N a.m)], .agg #[.int .u64 (N b.v), .int .u64 (N b.m)]] w fun e w' => e = .returned (.agg #[.int .u64 (N (Tn.join a b).v), .int .u64 (N (Tn.join a b).m)]) ∧ Below w.heap.size w w' := by
  cases ha : a.right <;> cases hb : b.right
  all_goals
    go_enter Try.func61, Try.ntmps61
    go_wp2_with (first | (go_at_call 94; (with_reducible refine (r_both_c ⟨_, _⟩ ⟨_, _⟩ _).mono ?_); rintro e w1 ⟨rfl, hb1⟩; obtain ⟨hc1, hf1, hz1⟩ := bcell hb1; (try simp only [World.size_alloc, World.size_setCell, World.size_drew] at hc1 hf1 hz1)) | (go_at_call 95; (with_reducible refine (r_made_c _ _ _).mono ?_); rintro e w1 ⟨rfl, hb1⟩; obtain ⟨hc1, hf1, hz1⟩ := bcell hb1; (try simp only [World.size_alloc, World.size_setCell, World.size_drew] at hc1 hf1 hz1)))
    refine bodyPost_ret (v := .agg #[.int .u64 (N (Tn.join a b).v), .int .u64 (N (Tn.join a b).m)]) ?_ rfl ⟨?_, (by repeat' (first | (with_reducible exact Below.refl _ _) | (with_reducible assumption) | (with_reducible refine Below.alloc ?_ ?_ _) | (with_reducible refine Below.setCell ?_ ?_ _) | (with_reducible refine Below.drew ?_) | (with_reducible refine below_dn ?_ _) | (with_reducible refine Below.trans ?_ (Below.mono (by assumption) ?_)) | go_size))⟩
    · simp only [results, Try.results61]; simp [*, go_sem, ↓IntWalk.iteOmega]; simp [Tn.join, ha, hb]; try (first | rfl | exact ⟨rfl, rfl⟩)
    · rfl

end Hk

namespace Hk
open Go Go.RowKit Go.Proofs
set_option linter.unusedSimpArgs false
set_option linter.unusedVariables false
set_option maxRecDepth 100000
theorem r_cut_no1 (t : Tn) (k : Int) (hr : t.right = false) (w : World) : Calls Try.prog 71 #[.agg #[.int .u64 (N t.v), .int .u64 (N t.m)], .int .i64 k] w fun e w' => e = .returned (.agg #[.int .u64 (N (Tn.cutI t k).v), .int .u64 (N (Tn.cutI t k).m)]) ∧ Below w.heap.size w w' := by
  go_enter Try.func71, Try.ntmps71
  go_wp2_with (first | (go_at_call 38; (with_reducible refine (r_right_c ⟨_, _⟩ _).mono ?_); rintro e w1 ⟨rfl, hb1⟩; obtain ⟨hc1, hf1, hz1⟩ := bcell hb1; (try simp only [World.size_alloc, World.size_setCell, World.size_drew] at hc1 hf1 hz1)))
  refine bodyPost_ret (v := .agg #[.int .u64 (N (Tn.cutI t k).v), .int .u64 (N (Tn.cutI t k).m)]) ?_ rfl ⟨rfl, (by repeat' (first | (with_reducible exact Below.refl _ _) | (with_reducible assumption) | (with_reducible refine Below.alloc ?_ ?_ _) | (with_reducible refine Below.setCell ?_ ?_ _) | (with_reducible refine Below.drew ?_) | (with_reducible refine below_dn ?_ _) | (with_reducible refine Below.trans ?_ (Below.mono (by assumption) ?_)) | go_size))⟩
  rw [Tn.cutI_no hr]
  simp only [results, Try.results71]; simp [*, go_sem, ↓IntWalk.iteOmega]; try (first | rfl | exact ⟨rfl, rfl⟩)

theorem r_cut_out1 (t : Tn) (k : Int) (hr : t.right = true) (h : k < 1) (w : World) : Calls Try.prog 71 #[.agg #[.int .u64 (N t.v), .int .u64 (N t.m)], .int .i64 k] w fun e w' => e = .returned (.agg #[.int .u64 (N (Tn.cutI t k).v), .int .u64 (N (Tn.cutI t k).m)]) ∧ Below w.heap.size w w' := by
  go_enter Try.func71, Try.ntmps71
  go_wp2_with (first | (go_at_call 38; (with_reducible refine (r_right_c ⟨_, _⟩ _).mono ?_); rintro e w1 ⟨rfl, hb1⟩; obtain ⟨hc1, hf1, hz1⟩ := bcell hb1; (try simp only [World.size_alloc, World.size_setCell, World.size_drew] at hc1 hf1 hz1)))
  refine bodyPost_ret (v := .agg #[.int .u64 (N (Tn.cutI t k).v), .int .u64 (N (Tn.cutI t k).m)]) ?_ rfl ⟨rfl, (by repeat' (first | (with_reducible exact Below.refl _ _) | (with_reducible assumption) | (with_reducible refine Below.alloc ?_ ?_ _) | (with_reducible refine Below.setCell ?_ ?_ _) | (with_reducible refine Below.drew ?_) | (with_reducible refine below_dn ?_ _) | (with_reducible refine Below.trans ?_ (Below.mono (by assumption) ?_)) | go_size))⟩
  rw [Tn.cutI_out hr (.inl h)]
  simp only [results, Try.results71]; simp [*, go_sem, ↓IntWalk.iteOmega]; try (first | rfl | exact ⟨rfl, rfl⟩)

theorem r_cut_out2 (t : Tn) (k : Int) (hr : t.right = true) (h : 63 < k) (w : World) : Calls Try.prog 71 #[.agg #[.int .u64 (N t.v), .int .u64 (N t.m)], .int .i64 k] w fun e w' => e = .returned (.agg #[.int .u64 (N (Tn.cutI t k).v), .int .u64 (N (Tn.cutI t k).m)]) ∧ Below w.heap.size w w' := by
  have h2 : ¬ k < 1 := by omega
  go_enter Try.func71, Try.ntmps71
  go_wp2_with (first | (go_at_call 38; (with_reducible refine (r_right_c ⟨_, _⟩ _).mono ?_); rintro e w1 ⟨rfl, hb1⟩; obtain ⟨hc1, hf1, hz1⟩ := bcell hb1; (try simp only [World.size_alloc, World.size_setCell, World.size_drew] at hc1 hf1 hz1)))
  refine bodyPost_ret (v := .agg #[.int .u64 (N (Tn.cutI t k).v), .int .u64 (N (Tn.cutI t k).m)]) ?_ rfl ⟨rfl, (by repeat' (first | (with_reducible exact Below.refl _ _) | (with_reducible assumption) | (with_reducible refine Below.alloc ?_ ?_ _) | (with_reducible refine Below.setCell ?_ ?_ _) | (with_reducible refine Below.drew ?_) | (with_reducible refine below_dn ?_ _) | (with_reducible refine Below.trans ?_ (Below.mono (by assumption) ?_)) | go_size))⟩
  rw [Tn.cutI_out hr (.inr h)]
  simp only [results, Try.results71]; simp [*, go_sem, ↓IntWalk.iteOmega]; try (first | rfl | exact ⟨rfl, rfl⟩)

theorem mod_low (x : BitVec 64) (k : Nat) (hk : k ≤ 63) : x % 1#64 <<< k = x &&& Tn.low k := by
  have e : (1#64 <<< k).toNat = 2 ^ k := by
    rw [BitVec.toNat_shiftLeft, Nat.shiftLeft_eq]
    have : (2 : Nat) ^ k < 2 ^ 64 := Nat.pow_lt_pow_right (by omega) (by omega)
    have e1 : (1#64).toNat = 1 := rfl
    rw [e1, Nat.one_mul, Nat.mod_eq_of_lt this]
  apply BitVec.eq_of_toNat_eq
  have hp := Nat.two_pow_pos k
  have hq : (2 : Nat) ^ k < 2 ^ 64 := Nat.pow_lt_pow_right (by omega) (by omega)
  have e2 : (Tn.low k).toNat = 2 ^ k - 1 := by
    unfold Tn.low
    rw [BitVec.toNat_sub, e]
    have e1 : (1#64).toNat = 1 := rfl
    rw [e1]
    omega
  rw [BitVec.toNat_umod, BitVec.toNat_and, e, e2, Nat.and_two_pow_sub_one_eq_mod]

theorem pw_ne (k : Int) (h0 : 0 ≤ k) (h1 : k ≤ 63) : 1#64 <<< k.toNat ≠ 0#64 := by
  intro h
  have := congrArg BitVec.toNat h
  rw [BitVec.toNat_shiftLeft, Nat.shiftLeft_eq] at this
  have e : (2 : Nat) ^ k.toNat < 2 ^ 64 := Nat.pow_lt_pow_right (by omega) (by omega)
  have e1 : (1#64).toNat = 1 := rfl
  rw [e1, Nat.one_mul, Nat.mod_eq_of_lt e] at this
  have := Nat.two_pow_pos k.toNat
  simp at *

theorem r_cut_in (t : Tn) (k : Int) (hr : t.right = true) (h0 : 1 ≤ k) (h1 : k ≤ 63) (w : World) : Calls Try.prog 71 #[.agg #[.int .u64 (N t.v), .int .u64 (N t.m)], .int .i64 k] w fun e w' => e = .returned (.agg #[.int .u64 (N (Tn.cutI t k).v), .int .u64 (N (Tn.cutI t k).m)]) ∧ Below w.heap.size w w' := by
  have h2 : ¬ k < 1 := by omega
  have h3 : ¬ 63 < k := by omega
  have h4 : 0 ≤ k := by omega
  have h5 := pw_ne k h4 h1
  have E := Tn.cutI_in hr h0 h1
  have HE := Lib.hid E
  clear E
  go_enter Try.func71, Try.ntmps71
  go_wp2_with (first | (go_at_call 38; (with_reducible refine (r_right_c ⟨_, _⟩ _).mono ?_); rintro e w1 ⟨rfl, hb1⟩; obtain ⟨hc1, hf1, hz1⟩ := bcell hb1; (try simp only [World.size_alloc, World.size_setCell, World.size_drew] at hc1 hf1 hz1)))
  go_region
  go_wp2
  refine bodyPost_ret (v := .agg #[.int .u64 (N (Tn.cutI t k).v), .int .u64 (N (Tn.cutI t k).m)]) ?_ rfl ⟨rfl, (by repeat' (first | (with_reducible exact Below.refl _ _) | (with_reducible assumption) | (with_reducible refine Below.alloc ?_ ?_ _) | (with_reducible refine Below.setCell ?_ ?_ _) | (with_reducible refine Below.drew ?_) | (with_reducible refine below_dn ?_ _) | (with_reducible refine Below.trans ?_ (Below.mono (by assumption) ?_)) | go_size))⟩
  simp only [results, Try.results71]; rw [HE.out]; simp [*, go_sem, ↓IntWalk.iteOmega, Tn.cut, mod_low _ _ (show k.toNat ≤ 63 by omega)]; try (first | rfl | exact ⟨rfl, rfl⟩)

theorem r_cut_c (t : Tn) (k : Int) (w : World) : Calls Try.prog 71 #[.agg #[.int .u64 (N t.v), .int .u64 (N t.m)], .int .i64 k] w fun e w' => e = .returned (.agg #[.int .u64 (N (Tn.cutI t k).v), .int .u64 (N (Tn.cutI t k).m)]) ∧ Below w.heap.size w w' := by
  cases hr : t.right
  · exact r_cut_no1 t k hr w
  by_cases h0 : k < 1
  · exact r_cut_out1 t k hr h0 w
  by_cases h1 : 63 < k
  · exact r_cut_out2 t k hr h1 w
  exact r_cut_in t k hr (by omega) (by omega) w

/-- What stands in memory ahead of the round k. -/
def LoopAt (a b : Tn) (x y : BitVec 64) (w : World) (wr : World) : Prop :=
  wr.cell? ⟨w.heap.size, 0, none⟩ = some (.int .u64 (N a.v)) ∧ wr.cell? ⟨w.heap.size, 1, none⟩ = some (.int .u64 (N a.m)) ∧
  wr.cell? ⟨w.heap.size + 1, 0, none⟩ = some (.int .u64 (N b.v)) ∧ wr.cell? ⟨w.heap.size + 1, 1, none⟩ = some (.int .u64 (N b.m)) ∧
  wr.cell? ⟨w.heap.size + 1 + 1, 0, none⟩ = some (.int .u64 (N 0#64)) ∧ wr.cell? ⟨w.heap.size + 1 + 1, 1, none⟩ = some (.int .u64 (N 0#64)) ∧
  wr.cell? ⟨w.heap.size + 1 + 1 + 1, 0, none⟩ = some (.int .u64 (N x)) ∧ wr.cell? ⟨w.heap.size + 1 + 1 + 1, 1, none⟩ = some (.int .u64 (N y)) ∧
  (∀ o, wr.frozen? ⟨w.heap.size + 1 + 1, o, none⟩ = false) ∧ (∀ o, wr.frozen? ⟨w.heap.size + 1 + 1 + 1, o, none⟩ = false) ∧ w.heap.size + 1 + 1 + 1 < wr.heap.size ∧ Below w.heap.size w wr
theorem bt_may (a b : Tn) (k : Nat) (hk : k < 64) : bt (Tn.and a b).m k = ((bt a.v k || bt a.m k) && (bt b.v k || bt b.m k) && !(bt a.v k && bt b.v k)) := by
  show bt ((a.v ||| a.m) &&& (b.v ||| b.m) &&& ~~~(a.v &&& b.v)) k = _
  simp only [bt_and, bt_or, bt_not _ _ hk]

set_option maxHeartbeats 2000000 in
theorem r_and_c (a b : Tn) (w : World) : Calls Try.prog 113 #[.agg #[.int .u64 (N a.v), .int .u64 (N a.m)], .agg #[.int .u64 (N b.v), .int .u64 (N b.m)]] w fun e w' => e = .returned (.agg #[.int .u64 (N (Tn.and a b).v), .int .u64 (N (Tn.and a b).m)]) ∧ Below w.heap.size w w' := by
  have E : upTo (a.v &&& b.v) 64 = (Tn.and a b).v ∧ upTo (Tn.and a b).m 64 = (Tn.and a b).m := ⟨upTo_all _, upTo_all _⟩
  have HE := Lib.hid E
  clear E
  go_enter Try.func113, Try.ntmps113
  go_wp2_with fail
  go_loopw [6] (fun i wr => ∃ k : Nat, k ≤ 64 ∧ i = .int .i64 k ∧ LoopAt a b (upTo (a.v &&& b.v) k) (upTo (Tn.and a b).m k) w wr) (fun i _ => 64 - (intOf i).toNat)
  case atStart =>
    refine ⟨0, by omega, rfl, ?_⟩
    unfold LoopAt
    refine ⟨?_, ?_, ?_, ?_, ?_, ?_, ?_, ?_, ?_, ?_, (by (try simp only [World.size_alloc, World.size_setCell, World.size_drew]); omega), (by repeat' (first | (with_reducible exact Below.refl _ _) | (with_reducible assumption) | (with_reducible refine Below.alloc ?_ ?_ _) | (with_reducible refine Below.setCell ?_ ?_ _) | (with_reducible refine Below.drew ?_) | (with_reducible refine below_dn ?_ _) | (with_reducible refine Below.trans ?_ (Below.mono (by assumption) ?_)) | go_size))⟩
    all_goals first | (intro o; simp [go_sem]; done) | (simp [go_sem, upTo]; try rfl)
  case round =>
    obtain ⟨k, hk, rfl, c0, c1, c2, c3, c4, c5, c6, c7, f0, f1, hz, hb⟩ := hrel
    by_cases hlt : k < 64
    · have hx := bt_and a.v b.v k
      have hy := bt_may a b k hlt
      have HX := Lib.hid hx
      have HY := Lib.hid hy
      clear hx hy
      cases h0 : bt a.v k <;> cases h1 : bt b.v k <;> cases h2 : bt a.m k <;> cases h3 : bt b.m k
      all_goals
        go_wp2_with (first | (go_at_call 78; (with_reducible refine (bit_c _ _ _).mono ?_); rintro e w1 ⟨rfl, rfl⟩))
        (try go_region)
        (try go_wp2)
        go_roundw
        case rel =>
          refine ⟨k + 1, by omega, by go_num, ?_⟩
          have hx := HX.out
          have hy := HY.out
          simp only [h0, h1, h2, h3, Bool.or_false, Bool.or_true, Bool.and_false, Bool.and_true, Bool.not_true, Bool.not_false, Bool.false_or, Bool.true_or, Bool.true_and, Bool.false_and, Bool.or_self, Bool.and_self] at hx hy
          unfold LoopAt
          refine ⟨?_, ?_, ?_, ?_, ?_, ?_, ?_, ?_, ?_, ?_, (by (try simp only [World.size_alloc, World.size_setCell, World.size_drew]); omega), (by repeat' (first | (with_reducible exact Below.refl _ _) | (with_reducible assumption) | (with_reducible refine Below.alloc ?_ ?_ _) | (with_reducible refine Below.setCell ?_ ?_ _) | (with_reducible refine Below.drew ?_) | (with_reducible refine below_dn ?_ _) | (with_reducible refine Below.trans ?_ (Below.mono (by assumption) ?_)) | go_size))⟩
          any_goals (intro o; simp [*, go_sem, ↓IntWalk.iteOmega]; done)
          all_goals (simp [*, go_sem, ↓IntWalk.iteOmega, upTo])
        case measure => simp [intOf]; omega
    · obtain rfl : k = 64 := by omega
      clear hlt
      go_wp2
      refine bodyPost_ret (v := .agg #[.int .u64 (N (Tn.and a b).v), .int .u64 (N (Tn.and a b).m)]) ?_ rfl ⟨rfl, (by repeat' (first | (with_reducible exact Below.refl _ _) | (with_reducible assumption) | (with_reducible refine Below.alloc ?_ ?_ _) | (with_reducible refine Below.setCell ?_ ?_ _) | (with_reducible refine Below.drew ?_) | (with_reducible refine below_dn ?_ _) | (with_reducible refine Below.trans ?_ (Below.mono (by assumption) ?_)) | go_size))⟩
      simp only [results, Try.results113]; simp [*, go_sem, ↓IntWalk.iteOmega, HE.out.1, HE.out.2]; try rfl

end Hk

namespace Hk
open Go Go.RowKit Go.Proofs
set_option linter.unusedSimpArgs false
set_option linter.unusedVariables false
set_option maxRecDepth 100000
theorem wp_region_tail {P : Program} {id : Nat} {Q : Exit → Act → World → Prop} {a : Act} {w : World} {l : List Oper} (n : Nat) (hm : P.follows .mixedOrders = true) (hB : Region.lexTailB .any l.toArray n = true)
    (h : wpStill P l.toArray w.drew (fun a' => wpList P l.toArray Q (l.drop n) a' w.drew) (l.take n) a) : (Code.region id l.toArray true).wp P Q a w := wp_region_still_tail n hm hB h

set_option maxHeartbeats 2000000 in
theorem r_mul_c (a b : Tn) (w : World) : Calls Try.prog 112 #[.agg #[.int .u64 (N a.v), .int .u64 (N a.m)], .agg #[.int .u64 (N b.v), .int .u64 (N b.m)]] w fun e w' => e = .returned (.agg #[.int .u64 (N (Tn.mul a b).v), .int .u64 (N (Tn.mul a b).m)]) ∧ Below w.heap.size w w' := by
  go_enter Try.func112, Try.ntmps112
  go_wp2_with fail
  go_loopw [6] (fun i wr => ∃ k : Nat, k ≤ 64 ∧ i = .int .i64 k ∧ LoopAt a b (Tn.mulTo a b k).v (Tn.mulTo a b k).m w wr) (fun i _ => 64 - (intOf i).toNat)
  case atStart =>
    refine ⟨0, by omega, rfl, ?_⟩
    unfold LoopAt
    refine ⟨?_, ?_, ?_, ?_, ?_, ?_, ?_, ?_, ?_, ?_, (by (try simp only [World.size_alloc, World.size_setCell, World.size_drew]); omega), (by repeat' (first | (with_reducible exact Below.refl _ _) | (with_reducible assumption) | (with_reducible refine Below.alloc ?_ ?_ _) | (with_reducible refine Below.setCell ?_ ?_ _) | (with_reducible refine Below.drew ?_) | (with_reducible refine below_dn ?_ _) | (with_reducible refine Below.trans ?_ (Below.mono (by assumption) ?_)) | go_size))⟩
    all_goals first | (intro o; simp [go_sem]; done) | (simp [go_sem, Tn.mulTo]; try rfl)
  case round =>
    obtain ⟨k, hk, rfl, c0, c1, c2, c3, c4, c5, c6, c7, f0, f1, hz, hb⟩ := hrel
    by_cases hlt : k < 64
    · cases h1 : bt b.v k <;> cases h3 : bt b.m k
      all_goals
        go_wp2_with (first | (go_at_call 78; (with_reducible refine (bit_c _ _ _).mono ?_); rintro e w1 ⟨rfl, rfl⟩))
        try
          first
            | refine wp_region_tail (id := 8) 9 (by kernel_rfl) (by kernel_rfl) ?_
            | refine wp_region_tail (id := 6) 10 (by kernel_rfl) (by kernel_rfl) ?_
          have HD : LoopAt a b (Tn.mulTo a b k).v (Tn.mulTo a b k).m w wr.drew := ⟨c0, c1, c2, c3, c4, c5, c6, c7, f0, f1, hz, Below.drew hb⟩
          clear c0 c1 c2 c3 c4 c5 c6 c7 f0 f1 hz hb
          generalize wr.drew = w2 at HD ⊢
          obtain ⟨c0, c1, c2, c3, c4, c5, c6, c7, f0, f1, hz, hb⟩ := HD
          simp only [List.take_succ_cons, List.take_zero, List.drop_succ_cons, List.drop_zero]
          repeat still_step
          try refine wpStill_nil ?_
          go_wp2_with (first | (go_at_call 111; (with_reducible refine (r_add_c ⟨_, _⟩ ⟨_, _⟩ _).mono ?_); rintro e w1 ⟨rfl, hb1⟩; obtain ⟨hc1, hf1, hz1⟩ := bcell hb1; (try simp only [World.size_alloc, World.size_setCell, World.size_drew] at hc1 hf1 hz1)))
        refine ⟨?rel, ?measure⟩
        case rel =>
          refine ⟨k + 1, by omega, by go_num, ?_⟩
          unfold LoopAt
          refine ⟨?_, ?_, ?_, ?_, ?_, ?_, ?_, ?_, ?_, ?_, (by (try simp only [World.size_alloc, World.size_setCell, World.size_drew]); omega), (by repeat' (first | (with_reducible exact Below.refl _ _) | (with_reducible assumption) | (with_reducible refine Below.alloc ?_ ?_ _) | (with_reducible refine Below.setCell ?_ ?_ _) | (with_reducible refine Below.drew ?_) | (with_reducible refine below_dn ?_ _) | (with_reducible refine Below.trans ?_ (Below.mono (by assumption) ?_)) | go_size))⟩
          any_goals (intro o; simp [*, go_sem, ↓IntWalk.iteOmega]; done)
          all_goals (simp [*, go_sem, ↓IntWalk.iteOmega, Tn.mulTo])
        case measure => simp [intOf]; omega
    · obtain rfl : k = 64 := by omega
      clear hlt
      go_wp2
      refine bodyPost_ret (v := .agg #[.int .u64 (N (Tn.mul a b).v), .int .u64 (N (Tn.mul a b).m)]) ?_ rfl ⟨rfl, (by repeat' (first | (with_reducible exact Below.refl _ _) | (with_reducible assumption) | (with_reducible refine Below.alloc ?_ ?_ _) | (with_reducible refine Below.setCell ?_ ?_ _) | (with_reducible refine Below.drew ?_) | (with_reducible refine below_dn ?_ _) | (with_reducible refine Below.trans ?_ (Below.mono (by assumption) ?_)) | go_size))⟩
      simp only [results, Try.results112]; simp [*, go_sem, ↓IntWalk.iteOmega, Tn.mul]; try rfl

end Hk

namespace Hk
open Go Go.RowKit Go.Proofs
set_option linter.unusedSimpArgs false
set_option linter.unusedVariables false
set_option maxRecDepth 100000
theorem r_do_no1 (op : Int) (a b : Tn) (ha : a.right = false) (w : World) : Calls Try.prog 88 #[.int .u8 op, .agg #[.int .u64 (N a.v), .int .u64 (N a.m)], .agg #[.int .u64 (N b.v), .int .u64 (N b.m)]] w fun e w' => e = .returned (.tuple #[.agg #[.int .u64 (N ((Tn.do_ (op) a b).getD ⟨0, 0⟩).v), .int .u64 (N ((Tn.do_ (op) a b).getD ⟨0, 0⟩).m)], .bool (Tn.do_ (op) a b).isSome]) ∧ Below w.heap.size w w' := by
  have E : Tn.do_ (op) a b = none := by unfold Tn.do_; simp [ha]
  rw [E]; clear E
  go_enter Try.func88, Try.ntmps88
  go_wp2_with (first | (go_at_call 94; (with_reducible refine (r_both_c ⟨_, _⟩ ⟨_, _⟩ _).mono ?_); rintro e w1 ⟨rfl, hb1⟩; obtain ⟨hc1, hf1, hz1⟩ := bcell hb1; (try simp only [World.size_alloc, World.size_setCell, World.size_drew] at hc1 hf1 hz1)))
  refine bodyPost_ret ?_ rfl ⟨rfl, (by repeat' (first | (with_reducible exact Below.refl _ _) | (with_reducible assumption) | (with_reducible refine Below.alloc ?_ ?_ _) | (with_reducible refine Below.setCell ?_ ?_ _) | (with_reducible refine Below.drew ?_) | (with_reducible refine below_dn ?_ _) | (with_reducible refine Below.trans ?_ (Below.mono (by assumption) ?_)) | go_size))⟩
  simp only [results, Try.results88]; simp [*, go_sem, ↓IntWalk.iteOmega]; try (first | rfl | exact ⟨rfl, rfl⟩)

theorem r_do_no2 (op : Int) (a b : Tn) (ha : a.right = true) (hb : b.right = false) (w : World) : Calls Try.prog 88 #[.int .u8 op, .agg #[.int .u64 (N a.v), .int .u64 (N a.m)], .agg #[.int .u64 (N b.v), .int .u64 (N b.m)]] w fun e w' => e = .returned (.tuple #[.agg #[.int .u64 (N ((Tn.do_ (op) a b).getD ⟨0, 0⟩).v), .int .u64 (N ((Tn.do_ (op) a b).getD ⟨0, 0⟩).m)], .bool (Tn.do_ (op) a b).isSome]) ∧ Below w.heap.size w w' := by
  have E : Tn.do_ (op) a b = none := by unfold Tn.do_; simp [hb]
  rw [E]; clear E
  go_enter Try.func88, Try.ntmps88
  go_wp2_with (first | (go_at_call 94; (with_reducible refine (r_both_c ⟨_, _⟩ ⟨_, _⟩ _).mono ?_); rintro e w1 ⟨rfl, hb1⟩; obtain ⟨hc1, hf1, hz1⟩ := bcell hb1; (try simp only [World.size_alloc, World.size_setCell, World.size_drew] at hc1 hf1 hz1)))
  refine bodyPost_ret ?_ rfl ⟨rfl, (by repeat' (first | (with_reducible exact Below.refl _ _) | (with_reducible assumption) | (with_reducible refine Below.alloc ?_ ?_ _) | (with_reducible refine Below.setCell ?_ ?_ _) | (with_reducible refine Below.drew ?_) | (with_reducible refine below_dn ?_ _) | (with_reducible refine Below.trans ?_ (Below.mono (by assumption) ?_)) | go_size))⟩
  simp only [results, Try.results88]; simp [*, go_sem, ↓IntWalk.iteOmega]; try (first | rfl | exact ⟨rfl, rfl⟩)

theorem r_do_add (a b : Tn) (ha : a.right = true) (hb : b.right = true) (w : World) : Calls Try.prog 88 #[.int .u8 0, .agg #[.int .u64 (N a.v), .int .u64 (N a.m)], .agg #[.int .u64 (N b.v), .int .u64 (N b.m)]] w fun e w' => e = .returned (.tuple #[.agg #[.int .u64 (N ((Tn.do_ (0) a b).getD ⟨0, 0⟩).v), .int .u64 (N ((Tn.do_ (0) a b).getD ⟨0, 0⟩).m)], .bool (Tn.do_ (0) a b).isSome]) ∧ Below w.heap.size w w' := by
  cases hk : (b.m == 0#64) <;> cases hl : decide (b.v < 64#64)
  all_goals
    have E : Tn.do_ (0) a b = some (Tn.add a b) := by unfold Tn.do_; simp [ha, hb]
    rw [E]; clear E
    go_enter Try.func88, Try.ntmps88
    go_wp2_with (first | (go_at_call 94; (with_reducible refine (r_both_c ⟨_, _⟩ ⟨_, _⟩ _).mono ?_); rintro e w1 ⟨rfl, hb1⟩; obtain ⟨hc1, hf1, hz1⟩ := bcell hb1; (try simp only [World.size_alloc, World.size_setCell, World.size_drew] at hc1 hf1 hz1)) | (go_at_call 111; (with_reducible refine (r_add_c ⟨_, _⟩ ⟨_, _⟩ _).mono ?_); rintro e w1 ⟨rfl, hb1⟩; obtain ⟨hc1, hf1, hz1⟩ := bcell hb1; (try simp only [World.size_alloc, World.size_setCell, World.size_drew] at hc1 hf1 hz1)))
    refine bodyPost_ret ?_ rfl ⟨rfl, (by repeat' (first | (with_reducible exact Below.refl _ _) | (with_reducible assumption) | (with_reducible refine Below.alloc ?_ ?_ _) | (with_reducible refine Below.setCell ?_ ?_ _) | (with_reducible refine Below.drew ?_) | (with_reducible refine below_dn ?_ _) | (with_reducible refine Below.trans ?_ (Below.mono (by assumption) ?_)) | go_size))⟩
    simp only [results, Try.results88]; simp [*, go_sem, ↓IntWalk.iteOmega]; try (first | rfl | exact ⟨rfl, rfl⟩)

theorem r_do_sub (a b : Tn) (ha : a.right = true) (hb : b.right = true) (w : World) : Calls Try.prog 88 #[.int .u8 16, .agg #[.int .u64 (N a.v), .int .u64 (N a.m)], .agg #[.int .u64 (N b.v), .int .u64 (N b.m)]] w fun e w' => e = .returned (.tuple #[.agg #[.int .u64 (N ((Tn.do_ (16) a b).getD ⟨0, 0⟩).v), .int .u64 (N ((Tn.do_ (16) a b).getD ⟨0, 0⟩).m)], .bool (Tn.do_ (16) a b).isSome]) ∧ Below w.heap.size w w' := by
  cases hk : (b.m == 0#64) <;> cases hl : decide (b.v < 64#64)
  all_goals
    have E : Tn.do_ (16) a b = some (Tn.sub a b) := by unfold Tn.do_; simp [ha, hb]
    rw [E]; clear E
    go_enter Try.func88, Try.ntmps88
    go_wp2_with (first | (go_at_call 94; (with_reducible refine (r_both_c ⟨_, _⟩ ⟨_, _⟩ _).mono ?_); rintro e w1 ⟨rfl, hb1⟩; obtain ⟨hc1, hf1, hz1⟩ := bcell hb1; (try simp only [World.size_alloc, World.size_setCell, World.size_drew] at hc1 hf1 hz1)) | (go_at_call 95; (with_reducible refine (r_made_c _ _ _).mono ?_); rintro e w1 ⟨rfl, hb1⟩; obtain ⟨hc1, hf1, hz1⟩ := bcell hb1; (try simp only [World.size_alloc, World.size_setCell, World.size_drew] at hc1 hf1 hz1)))
    refine bodyPost_ret ?_ rfl ⟨rfl, (by repeat' (first | (with_reducible exact Below.refl _ _) | (with_reducible assumption) | (with_reducible refine Below.alloc ?_ ?_ _) | (with_reducible refine Below.setCell ?_ ?_ _) | (with_reducible refine Below.drew ?_) | (with_reducible refine below_dn ?_ _) | (with_reducible refine Below.trans ?_ (Below.mono (by assumption) ?_)) | go_size))⟩
    simp only [results, Try.results88]; simp [*, go_sem, ↓IntWalk.iteOmega]; try (first | rfl | exact ⟨rfl, rfl⟩)

theorem r_do_mul (a b : Tn) (ha : a.right = true) (hb : b.right = true) (w : World) : Calls Try.prog 88 #[.int .u8 32, .agg #[.int .u64 (N a.v), .int .u64 (N a.m)], .agg #[.int .u64 (N b.v), .int .u64 (N b.m)]] w fun e w' => e = .returned (.tuple #[.agg #[.int .u64 (N ((Tn.do_ (32) a b).getD ⟨0, 0⟩).v), .int .u64 (N ((Tn.do_ (32) a b).getD ⟨0, 0⟩).m)], .bool (Tn.do_ (32) a b).isSome]) ∧ Below w.heap.size w w' := by
  cases hk : (b.m == 0#64) <;> cases hl : decide (b.v < 64#64)
  all_goals
    have E : Tn.do_ (32) a b = some (Tn.mul a b) := by unfold Tn.do_; simp [ha, hb]
    rw [E]; clear E
    go_enter Try.func88, Try.ntmps88
    go_wp2_with (first | (go_at_call 94; (with_reducible refine (r_both_c ⟨_, _⟩ ⟨_, _⟩ _).mono ?_); rintro e w1 ⟨rfl, hb1⟩; obtain ⟨hc1, hf1, hz1⟩ := bcell hb1; (try simp only [World.size_alloc, World.size_setCell, World.size_drew] at hc1 hf1 hz1)) | (go_at_call 112; (with_reducible refine (r_mul_c ⟨_, _⟩ ⟨_, _⟩ _).mono ?_); rintro e w1 ⟨rfl, hb1⟩; obtain ⟨hc1, hf1, hz1⟩ := bcell hb1; (try simp only [World.size_alloc, World.size_setCell, World.size_drew] at hc1 hf1 hz1)))
    refine bodyPost_ret ?_ rfl ⟨rfl, (by repeat' (first | (with_reducible exact Below.refl _ _) | (with_reducible assumption) | (with_reducible refine Below.alloc ?_ ?_ _) | (with_reducible refine Below.setCell ?_ ?_ _) | (with_reducible refine Below.drew ?_) | (with_reducible refine below_dn ?_ _) | (with_reducible refine Below.trans ?_ (Below.mono (by assumption) ?_)) | go_size))⟩
    simp only [results, Try.results88]; simp [*, go_sem, ↓IntWalk.iteOmega]; try (first | rfl | exact ⟨rfl, rfl⟩)

theorem r_do_and (a b : Tn) (ha : a.right = true) (hb : b.right = true) (w : World) : Calls Try.prog 88 #[.int .u8 80, .agg #[.int .u64 (N a.v), .int .u64 (N a.m)], .agg #[.int .u64 (N b.v), .int .u64 (N b.m)]] w fun e w' => e = .returned (.tuple #[.agg #[.int .u64 (N ((Tn.do_ (80) a b).getD ⟨0, 0⟩).v), .int .u64 (N ((Tn.do_ (80) a b).getD ⟨0, 0⟩).m)], .bool (Tn.do_ (80) a b).isSome]) ∧ Below w.heap.size w w' := by
  cases hk : (b.m == 0#64) <;> cases hl : decide (b.v < 64#64)
  all_goals
    have E : Tn.do_ (80) a b = some (Tn.and a b) := by unfold Tn.do_; simp [ha, hb]
    rw [E]; clear E
    go_enter Try.func88, Try.ntmps88
    go_wp2_with (first | (go_at_call 94; (with_reducible refine (r_both_c ⟨_, _⟩ ⟨_, _⟩ _).mono ?_); rintro e w1 ⟨rfl, hb1⟩; obtain ⟨hc1, hf1, hz1⟩ := bcell hb1; (try simp only [World.size_alloc, World.size_setCell, World.size_drew] at hc1 hf1 hz1)) | (go_at_call 113; (with_reducible refine (r_and_c ⟨_, _⟩ ⟨_, _⟩ _).mono ?_); rintro e w1 ⟨rfl, hb1⟩; obtain ⟨hc1, hf1, hz1⟩ := bcell hb1; (try simp only [World.size_alloc, World.size_setCell, World.size_drew] at hc1 hf1 hz1)))
    refine bodyPost_ret ?_ rfl ⟨rfl, (by repeat' (first | (with_reducible exact Below.refl _ _) | (with_reducible assumption) | (with_reducible refine Below.alloc ?_ ?_ _) | (with_reducible refine Below.setCell ?_ ?_ _) | (with_reducible refine Below.drew ?_) | (with_reducible refine below_dn ?_ _) | (with_reducible refine Below.trans ?_ (Below.mono (by assumption) ?_)) | go_size))⟩
    simp only [results, Try.results88]; simp [*, go_sem, ↓IntWalk.iteOmega]; try (first | rfl | exact ⟨rfl, rfl⟩)

end Hk

namespace Hk
open Go Go.RowKit Go.Proofs
set_option linter.unusedSimpArgs false
set_option linter.unusedVariables false
set_option maxRecDepth 100000
theorem r_do_or (a b : Tn) (ha : a.right = true) (hb : b.right = true) (w : World) : Calls Try.prog 88 #[.int .u8 64, .agg #[.int .u64 (N a.v), .int .u64 (N a.m)], .agg #[.int .u64 (N b.v), .int .u64 (N b.m)]] w fun e w' => e = .returned (.tuple #[.agg #[.int .u64 (N ((Tn.do_ (64) a b).getD ⟨0, 0⟩).v), .int .u64 (N ((Tn.do_ (64) a b).getD ⟨0, 0⟩).m)], .bool (Tn.do_ (64) a b).isSome]) ∧ Below w.heap.size w w' := by
  cases hk : (b.m == 0#64) <;> cases hl : decide (b.v < 64#64)
  all_goals
    have E : Tn.do_ (64) a b = some (Tn.or a b) := by unfold Tn.do_; simp [ha, hb]
    rw [E]; clear E
    go_enter Try.func88, Try.ntmps88
    go_wp2_with (first | (go_at_call 94; (with_reducible refine (r_both_c ⟨_, _⟩ ⟨_, _⟩ _).mono ?_); rintro e w1 ⟨rfl, hb1⟩; obtain ⟨hc1, hf1, hz1⟩ := bcell hb1; (try simp only [World.size_alloc, World.size_setCell, World.size_drew] at hc1 hf1 hz1)))
    refine bodyPost_ret ?_ rfl ⟨rfl, (by repeat' (first | (with_reducible exact Below.refl _ _) | (with_reducible assumption) | (with_reducible refine Below.alloc ?_ ?_ _) | (with_reducible refine Below.setCell ?_ ?_ _) | (with_reducible refine Below.drew ?_) | (with_reducible refine below_dn ?_ _) | (with_reducible refine Below.trans ?_ (Below.mono (by assumption) ?_)) | go_size))⟩
    simp only [results, Try.results88]; simp [*, go_sem, ↓IntWalk.iteOmega]; try (first | rfl | exact ⟨rfl, rfl⟩)

theorem r_do_xor (a b : Tn) (ha : a.right = true) (hb : b.right = true) (w : World) : Calls Try.prog 88 #[.int .u8 160, .agg #[.int .u64 (N a.v), .int .u64 (N a.m)], .agg #[.int .u64 (N b.v), .int .u64 (N b.m)]] w fun e w' => e = .returned (.tuple #[.agg #[.int .u64 (N ((Tn.do_ (160) a b).getD ⟨0, 0⟩).v), .int .u64 (N ((Tn.do_ (160) a b).getD ⟨0, 0⟩).m)], .bool (Tn.do_ (160) a b).isSome]) ∧ Below w.heap.size w w' := by
  cases hk : (b.m == 0#64) <;> cases hl : decide (b.v < 64#64)
  all_goals
    have E : Tn.do_ (160) a b = some (Tn.xor a b) := by unfold Tn.do_; simp [ha, hb]
    rw [E]; clear E
    go_enter Try.func88, Try.ntmps88
    go_wp2_with (first | (go_at_call 94; (with_reducible refine (r_both_c ⟨_, _⟩ ⟨_, _⟩ _).mono ?_); rintro e w1 ⟨rfl, hb1⟩; obtain ⟨hc1, hf1, hz1⟩ := bcell hb1; (try simp only [World.size_alloc, World.size_setCell, World.size_drew] at hc1 hf1 hz1)) | (go_at_call 95; (with_reducible refine (r_made_c _ _ _).mono ?_); rintro e w1 ⟨rfl, hb1⟩; obtain ⟨hc1, hf1, hz1⟩ := bcell hb1; (try simp only [World.size_alloc, World.size_setCell, World.size_drew] at hc1 hf1 hz1)))
    refine bodyPost_ret ?_ rfl ⟨rfl, (by repeat' (first | (with_reducible exact Below.refl _ _) | (with_reducible assumption) | (with_reducible refine Below.alloc ?_ ?_ _) | (with_reducible refine Below.setCell ?_ ?_ _) | (with_reducible refine Below.drew ?_) | (with_reducible refine below_dn ?_ _) | (with_reducible refine Below.trans ?_ (Below.mono (by assumption) ?_)) | go_size))⟩
    simp only [results, Try.results88]; simp [*, go_sem, ↓IntWalk.iteOmega]; try (first | rfl | exact ⟨rfl, rfl⟩)

theorem r_do_lsh1 (a b : Tn) (ha : a.right = true) (hb : b.right = true) (hk : (b.m == 0#64) = true) (hl : decide (b.v < 64#64) = true) (w : World) : Calls Try.prog 88 #[.int .u8 96, .agg #[.int .u64 (N a.v), .int .u64 (N a.m)], .agg #[.int .u64 (N b.v), .int .u64 (N b.m)]] w fun e w' => e = .returned (.tuple #[.agg #[.int .u64 (N ((Tn.do_ (96) a b).getD ⟨0, 0⟩).v), .int .u64 (N ((Tn.do_ (96) a b).getD ⟨0, 0⟩).m)], .bool (Tn.do_ (96) a b).isSome]) ∧ Below w.heap.size w w' := by
  have E : Tn.do_ (96) a b = some ⟨a.v <<< b.v.toNat, a.m <<< b.v.toNat⟩ := by unfold Tn.do_; simp [ha, hb, Tn.moves, hk, hl]
  rw [E]; clear E
  go_enter Try.func88, Try.ntmps88
  go_wp2_with (first | (go_at_call 94; (with_reducible refine (r_both_c ⟨_, _⟩ ⟨_, _⟩ _).mono ?_); rintro e w1 ⟨rfl, hb1⟩; obtain ⟨hc1, hf1, hz1⟩ := bcell hb1; (try simp only [World.size_alloc, World.size_setCell, World.size_drew] at hc1 hf1 hz1)))
  refine bodyPost_ret ?_ rfl ⟨rfl, (by repeat' (first | (with_reducible exact Below.refl _ _) | (with_reducible assumption) | (with_reducible refine Below.alloc ?_ ?_ _) | (with_reducible refine Below.setCell ?_ ?_ _) | (with_reducible refine Below.drew ?_) | (with_reducible refine below_dn ?_ _) | (with_reducible refine Below.trans ?_ (Below.mono (by assumption) ?_)) | go_size))⟩
  simp only [results, Try.results88]; simp [*, go_sem, ↓IntWalk.iteOmega]; try (first | rfl | exact ⟨rfl, rfl⟩)

theorem r_do_lsh2 (a b : Tn) (ha : a.right = true) (hb : b.right = true) (hk : (b.m == 0#64) = true) (hl : decide (b.v < 64#64) = false) (w : World) : Calls Try.prog 88 #[.int .u8 96, .agg #[.int .u64 (N a.v), .int .u64 (N a.m)], .agg #[.int .u64 (N b.v), .int .u64 (N b.m)]] w fun e w' => e = .returned (.tuple #[.agg #[.int .u64 (N ((Tn.do_ (96) a b).getD ⟨0, 0⟩).v), .int .u64 (N ((Tn.do_ (96) a b).getD ⟨0, 0⟩).m)], .bool (Tn.do_ (96) a b).isSome]) ∧ Below w.heap.size w w' := by
  have E : Tn.do_ (96) a b = none := by unfold Tn.do_; simp [ha, hb, Tn.moves, hk, hl]
  rw [E]; clear E
  go_enter Try.func88, Try.ntmps88
  go_wp2_with (first | (go_at_call 94; (with_reducible refine (r_both_c ⟨_, _⟩ ⟨_, _⟩ _).mono ?_); rintro e w1 ⟨rfl, hb1⟩; obtain ⟨hc1, hf1, hz1⟩ := bcell hb1; (try simp only [World.size_alloc, World.size_setCell, World.size_drew] at hc1 hf1 hz1)))
  refine bodyPost_ret ?_ rfl ⟨rfl, (by repeat' (first | (with_reducible exact Below.refl _ _) | (with_reducible assumption) | (with_reducible refine Below.alloc ?_ ?_ _) | (with_reducible refine Below.setCell ?_ ?_ _) | (with_reducible refine Below.drew ?_) | (with_reducible refine below_dn ?_ _) | (with_reducible refine Below.trans ?_ (Below.mono (by assumption) ?_)) | go_size))⟩
  simp only [results, Try.results88]; simp [*, go_sem, ↓IntWalk.iteOmega]; try (first | rfl | exact ⟨rfl, rfl⟩)

theorem r_do_lsh3 (a b : Tn) (ha : a.right = true) (hb : b.right = true) (hk : (b.m == 0#64) = false) (w : World) : Calls Try.prog 88 #[.int .u8 96, .agg #[.int .u64 (N a.v), .int .u64 (N a.m)], .agg #[.int .u64 (N b.v), .int .u64 (N b.m)]] w fun e w' => e = .returned (.tuple #[.agg #[.int .u64 (N ((Tn.do_ (96) a b).getD ⟨0, 0⟩).v), .int .u64 (N ((Tn.do_ (96) a b).getD ⟨0, 0⟩).m)], .bool (Tn.do_ (96) a b).isSome]) ∧ Below w.heap.size w w' := by
  have E : Tn.do_ (96) a b = none := by unfold Tn.do_; simp [ha, hb, Tn.moves, hk]
  rw [E]; clear E
  go_enter Try.func88, Try.ntmps88
  go_wp2_with (first | (go_at_call 94; (with_reducible refine (r_both_c ⟨_, _⟩ ⟨_, _⟩ _).mono ?_); rintro e w1 ⟨rfl, hb1⟩; obtain ⟨hc1, hf1, hz1⟩ := bcell hb1; (try simp only [World.size_alloc, World.size_setCell, World.size_drew] at hc1 hf1 hz1)))
  refine bodyPost_ret ?_ rfl ⟨rfl, (by repeat' (first | (with_reducible exact Below.refl _ _) | (with_reducible assumption) | (with_reducible refine Below.alloc ?_ ?_ _) | (with_reducible refine Below.setCell ?_ ?_ _) | (with_reducible refine Below.drew ?_) | (with_reducible refine below_dn ?_ _) | (with_reducible refine Below.trans ?_ (Below.mono (by assumption) ?_)) | go_size))⟩
  simp only [results, Try.results88]; simp [*, go_sem, ↓IntWalk.iteOmega]; try (first | rfl | exact ⟨rfl, rfl⟩)

theorem r_do_rsh1 (a b : Tn) (ha : a.right = true) (hb : b.right = true) (hk : (b.m == 0#64) = true) (hl : decide (b.v < 64#64) = true) (w : World) : Calls Try.prog 88 #[.int .u8 112, .agg #[.int .u64 (N a.v), .int .u64 (N a.m)], .agg #[.int .u64 (N b.v), .int .u64 (N b.m)]] w fun e w' => e = .returned (.tuple #[.agg #[.int .u64 (N ((Tn.do_ (112) a b).getD ⟨0, 0⟩).v), .int .u64 (N ((Tn.do_ (112) a b).getD ⟨0, 0⟩).m)], .bool (Tn.do_ (112) a b).isSome]) ∧ Below w.heap.size w w' := by
  have E : Tn.do_ (112) a b = some ⟨a.v >>> b.v.toNat, a.m >>> b.v.toNat⟩ := by unfold Tn.do_; simp [ha, hb, Tn.moves, hk, hl]
  rw [E]; clear E
  go_enter Try.func88, Try.ntmps88
  go_wp2_with (first | (go_at_call 94; (with_reducible refine (r_both_c ⟨_, _⟩ ⟨_, _⟩ _).mono ?_); rintro e w1 ⟨rfl, hb1⟩; obtain ⟨hc1, hf1, hz1⟩ := bcell hb1; (try simp only [World.size_alloc, World.size_setCell, World.size_drew] at hc1 hf1 hz1)))
  refine bodyPost_ret ?_ rfl ⟨rfl, (by repeat' (first | (with_reducible exact Below.refl _ _) | (with_reducible assumption) | (with_reducible refine Below.alloc ?_ ?_ _) | (with_reducible refine Below.setCell ?_ ?_ _) | (with_reducible refine Below.drew ?_) | (with_reducible refine below_dn ?_ _) | (with_reducible refine Below.trans ?_ (Below.mono (by assumption) ?_)) | go_size))⟩
  simp only [results, Try.results88]; simp [*, go_sem, ↓IntWalk.iteOmega]; try (first | rfl | exact ⟨rfl, rfl⟩)

theorem r_do_rsh2 (a b : Tn) (ha : a.right = true) (hb : b.right = true) (hk : (b.m == 0#64) = true) (hl : decide (b.v < 64#64) = false) (w : World) : Calls Try.prog 88 #[.int .u8 112, .agg #[.int .u64 (N a.v), .int .u64 (N a.m)], .agg #[.int .u64 (N b.v), .int .u64 (N b.m)]] w fun e w' => e = .returned (.tuple #[.agg #[.int .u64 (N ((Tn.do_ (112) a b).getD ⟨0, 0⟩).v), .int .u64 (N ((Tn.do_ (112) a b).getD ⟨0, 0⟩).m)], .bool (Tn.do_ (112) a b).isSome]) ∧ Below w.heap.size w w' := by
  have E : Tn.do_ (112) a b = none := by unfold Tn.do_; simp [ha, hb, Tn.moves, hk, hl]
  rw [E]; clear E
  go_enter Try.func88, Try.ntmps88
  go_wp2_with (first | (go_at_call 94; (with_reducible refine (r_both_c ⟨_, _⟩ ⟨_, _⟩ _).mono ?_); rintro e w1 ⟨rfl, hb1⟩; obtain ⟨hc1, hf1, hz1⟩ := bcell hb1; (try simp only [World.size_alloc, World.size_setCell, World.size_drew] at hc1 hf1 hz1)))
  refine bodyPost_ret ?_ rfl ⟨rfl, (by repeat' (first | (with_reducible exact Below.refl _ _) | (with_reducible assumption) | (with_reducible refine Below.alloc ?_ ?_ _) | (with_reducible refine Below.setCell ?_ ?_ _) | (with_reducible refine Below.drew ?_) | (with_reducible refine below_dn ?_ _) | (with_reducible refine Below.trans ?_ (Below.mono (by assumption) ?_)) | go_size))⟩
  simp only [results, Try.results88]; simp [*, go_sem, ↓IntWalk.iteOmega]; try (first | rfl | exact ⟨rfl, rfl⟩)

theorem r_do_rsh3 (a b : Tn) (ha : a.right = true) (hb : b.right = true) (hk : (b.m == 0#64) = false) (w : World) : Calls Try.prog 88 #[.int .u8 112, .agg #[.int .u64 (N a.v), .int .u64 (N a.m)], .agg #[.int .u64 (N b.v), .int .u64 (N b.m)]] w fun e w' => e = .returned (.tuple #[.agg #[.int .u64 (N ((Tn.do_ (112) a b).getD ⟨0, 0⟩).v), .int .u64 (N ((Tn.do_ (112) a b).getD ⟨0, 0⟩).m)], .bool (Tn.do_ (112) a b).isSome]) ∧ Below w.heap.size w w' := by
  have E : Tn.do_ (112) a b = none := by unfold Tn.do_; simp [ha, hb, Tn.moves, hk]
  rw [E]; clear E
  go_enter Try.func88, Try.ntmps88
  go_wp2_with (first | (go_at_call 94; (with_reducible refine (r_both_c ⟨_, _⟩ ⟨_, _⟩ _).mono ?_); rintro e w1 ⟨rfl, hb1⟩; obtain ⟨hc1, hf1, hz1⟩ := bcell hb1; (try simp only [World.size_alloc, World.size_setCell, World.size_drew] at hc1 hf1 hz1)))
  refine bodyPost_ret ?_ rfl ⟨rfl, (by repeat' (first | (with_reducible exact Below.refl _ _) | (with_reducible assumption) | (with_reducible refine Below.alloc ?_ ?_ _) | (with_reducible refine Below.setCell ?_ ?_ _) | (with_reducible refine Below.drew ?_) | (with_reducible refine below_dn ?_ _) | (with_reducible refine Below.trans ?_ (Below.mono (by assumption) ?_)) | go_size))⟩
  simp only [results, Try.results88]; simp [*, go_sem, ↓IntWalk.iteOmega]; try (first | rfl | exact ⟨rfl, rfl⟩)

theorem r_do_else (op : Int) (a b : Tn) (ha : a.right = true) (hb : b.right = true) (n0 : ¬ op = 0) (n16 : ¬ op = 16) (n32 : ¬ op = 32) (n80 : ¬ op = 80) (n64 : ¬ op = 64) (n160 : ¬ op = 160) (n96 : ¬ op = 96) (n112 : ¬ op = 112) (w : World) : Calls Try.prog 88 #[.int .u8 op, .agg #[.int .u64 (N a.v), .int .u64 (N a.m)], .agg #[.int .u64 (N b.v), .int .u64 (N b.m)]] w fun e w' => e = .returned (.tuple #[.agg #[.int .u64 (N ((Tn.do_ (op) a b).getD ⟨0, 0⟩).v), .int .u64 (N ((Tn.do_ (op) a b).getD ⟨0, 0⟩).m)], .bool (Tn.do_ (op) a b).isSome]) ∧ Below w.heap.size w w' := by
  cases hk : (b.m == 0#64) <;> cases hl : decide (b.v < 64#64)
  all_goals
    have E : Tn.do_ (op) a b = none := by unfold Tn.do_; simp [ha, hb, n0, n16, n32, n80, n64, n160, n96, n112]
    rw [E]; clear E
    go_enter Try.func88, Try.ntmps88
    go_wp2_with (first | (go_at_call 94; (with_reducible refine (r_both_c ⟨_, _⟩ ⟨_, _⟩ _).mono ?_); rintro e w1 ⟨rfl, hb1⟩; obtain ⟨hc1, hf1, hz1⟩ := bcell hb1; (try simp only [World.size_alloc, World.size_setCell, World.size_drew] at hc1 hf1 hz1)))
    refine bodyPost_ret ?_ rfl ⟨rfl, (by repeat' (first | (with_reducible exact Below.refl _ _) | (with_reducible assumption) | (with_reducible refine Below.alloc ?_ ?_ _) | (with_reducible refine Below.setCell ?_ ?_ _) | (with_reducible refine Below.drew ?_) | (with_reducible refine below_dn ?_ _) | (with_reducible refine Below.trans ?_ (Below.mono (by assumption) ?_)) | go_size))⟩
    simp only [results, Try.results88]; simp [*, go_sem, ↓IntWalk.iteOmega]; try (first | rfl | exact ⟨rfl, rfl⟩)

end Hk

namespace Hk
open Go Go.RowKit Go.Proofs
set_option linter.unusedSimpArgs false
set_option linter.unusedVariables false
set_option maxRecDepth 100000
theorem r_do_c (op : Int) (a b : Tn) (w : World) : Calls Try.prog 88 #[.int .u8 op, .agg #[.int .u64 (N a.v), .int .u64 (N a.m)], .agg #[.int .u64 (N b.v), .int .u64 (N b.m)]] w fun e w' => e = .returned (.tuple #[.agg #[.int .u64 (N ((Tn.do_ op a b).getD ⟨0, 0⟩).v), .int .u64 (N ((Tn.do_ op a b).getD ⟨0, 0⟩).m)], .bool (Tn.do_ op a b).isSome]) ∧ Below w.heap.size w w' := by
  cases ha : a.right
  · exact r_do_no1 op a b ha w
  cases hb : b.right
  · exact r_do_no2 op a b ha hb w
  by_cases n0 : op = 0
  · subst n0; exact r_do_add a b ha hb w
  by_cases n16 : op = 16
  · subst n16; exact r_do_sub a b ha hb w
  by_cases n32 : op = 32
  · subst n32; exact r_do_mul a b ha hb w
  by_cases n80 : op = 80
  · subst n80; exact r_do_and a b ha hb w
  by_cases n64 : op = 64
  · subst n64; exact r_do_or a b ha hb w
  by_cases n160 : op = 160
  · subst n160; exact r_do_xor a b ha hb w
  by_cases n96 : op = 96
  · subst n96
    cases hk : (b.m == 0#64)
    · exact r_do_lsh3 a b ha hb hk w
    cases hl : decide (b.v < 64#64)
    · exact r_do_lsh2 a b ha hb hk hl w
    exact r_do_lsh1 a b ha hb hk hl w
  by_cases n112 : op = 112
  · subst n112
    cases hk : (b.m == 0#64)
    · exact r_do_rsh3 a b ha hb hk w
    cases hl : decide (b.v < 64#64)
    · exact r_do_rsh2 a b ha hb hk hl w
    exact r_do_rsh1 a b ha hb hk hl w
  exact r_do_else op a b ha hb n0 n16 n32 n80 n64 n160 n96 n112 w

end Hk

namespace Hk
open Go Go.RowKit Go.Proofs
set_option linter.unusedSimpArgs false
set_option linter.unusedVariables false
set_option maxRecDepth 100000
attribute [go_sem] Tn.eta
theorem r_right_c' (x0 y0 : BitVec 64) (w : World) : Calls Try.prog 38 #[.agg #[.int .u64 (N x0), .int .u64 (N y0)]] w fun e w' => e = .returned (.bool (Tn.right (⟨x0, y0⟩ : Tn))) ∧ Below w.heap.size w w' := by
  exact r_right_c (⟨x0, y0⟩ : Tn) w

theorem r_has_c' (x0 y0 : BitVec 64) (x1 : BitVec 64) (w : World) : Calls Try.prog 58 #[.agg #[.int .u64 (N x0), .int .u64 (N y0)], .int .u64 (N x1)] w fun e w' => e = .returned (.bool (Tn.has (⟨x0, y0⟩ : Tn) x1)) ∧ Below w.heap.size w w' := by
  exact r_has_c (⟨x0, y0⟩ : Tn) x1 w

theorem r_within_c' (x0 y0 : BitVec 64) (x1 y1 : BitVec 64) (w : World) : Calls Try.prog 65 #[.agg #[.int .u64 (N x0), .int .u64 (N y0)], .agg #[.int .u64 (N x1), .int .u64 (N y1)]] w fun e w' => e = .returned (.bool (Tn.within (⟨x0, y0⟩ : Tn) (⟨x1, y1⟩ : Tn))) ∧ Below w.heap.size w w' := by
  exact r_within_c (⟨x0, y0⟩ : Tn) (⟨x1, y1⟩ : Tn) w

theorem r_join_c' (x0 y0 : BitVec 64) (x1 y1 : BitVec 64) (w : World) : Calls Try.prog 61 #[.agg #[.int .u64 (N x0), .int .u64 (N y0)], .agg #[.int .u64 (N x1), .int .u64 (N y1)]] w fun e w' => e = .returned (.agg #[.int .u64 (N (Tn.join (⟨x0, y0⟩ : Tn) (⟨x1, y1⟩ : Tn)).v), .int .u64 (N (Tn.join (⟨x0, y0⟩ : Tn) (⟨x1, y1⟩ : Tn)).m)]) ∧ Below w.heap.size w w' := by
  exact r_join_c (⟨x0, y0⟩ : Tn) (⟨x1, y1⟩ : Tn) w

theorem r_meet_c' (x0 y0 : BitVec 64) (x1 y1 : BitVec 64) (w : World) : Calls Try.prog 74 #[.agg #[.int .u64 (N x0), .int .u64 (N y0)], .agg #[.int .u64 (N x1), .int .u64 (N y1)]] w fun e w' => e = .returned (.tuple #[.agg #[.int .u64 (N (Tn.meet (⟨x0, y0⟩ : Tn) (⟨x1, y1⟩ : Tn)).v), .int .u64 (N (Tn.meet (⟨x0, y0⟩ : Tn) (⟨x1, y1⟩ : Tn)).m)], .bool (Tn.meetOk (⟨x0, y0⟩ : Tn) (⟨x1, y1⟩ : Tn))]) ∧ Below w.heap.size w w' := by
  exact r_meet_c (⟨x0, y0⟩ : Tn) (⟨x1, y1⟩ : Tn) w

theorem r_cut_c' (x0 y0 : BitVec 64) (x1 : Int) (w : World) : Calls Try.prog 71 #[.agg #[.int .u64 (N x0), .int .u64 (N y0)], .int .i64 x1] w fun e w' => e = .returned (.agg #[.int .u64 (N (Tn.cutI (⟨x0, y0⟩ : Tn) x1).v), .int .u64 (N (Tn.cutI (⟨x0, y0⟩ : Tn) x1).m)]) ∧ Below w.heap.size w w' := by
  exact r_cut_c (⟨x0, y0⟩ : Tn) x1 w

theorem r_do_c' (x0 : Int) (x1 y1 : BitVec 64) (x2 y2 : BitVec 64) (w : World) : Calls Try.prog 88 #[.int .u8 x0, .agg #[.int .u64 (N x1), .int .u64 (N y1)], .agg #[.int .u64 (N x2), .int .u64 (N y2)]] w fun e w' => e = .returned (.tuple #[.agg #[.int .u64 (N ((Tn.do_ x0 (⟨x1, y1⟩ : Tn) (⟨x2, y2⟩ : Tn)).getD ⟨0, 0⟩).v), .int .u64 (N ((Tn.do_ x0 (⟨x1, y1⟩ : Tn) (⟨x2, y2⟩ : Tn)).getD ⟨0, 0⟩).m)], .bool (Tn.do_ x0 (⟨x1, y1⟩ : Tn) (⟨x2, y2⟩ : Tn)).isSome]) ∧ Below w.heap.size w w' := by
  exact r_do_c x0 (⟨x1, y1⟩ : Tn) (⟨x2, y2⟩ : Tn) w

end Hk

