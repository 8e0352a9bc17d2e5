/- Loads of Tnums and of words in a region that draws its order: their value is the cells'. No condition but those in each statement. The reference of tnums: its bit, and whether a tnum is right; old memory is as it was. No condition. The reference of tnums: what is made of a value and a mask, both, Add; old memory is as it was. No condition. The reference of tnums: Has; old memory is as it was. No condition. The reference of tnums: Within; old memory is as it was. No condition. The reference of tnums: Meet, Join; old memory is as it was. No condition. The reference of tnums: Cut, and; old memory is as it was. No condition but those in each statement. The reference of tnums: mul; old memory is as it was. No condition but those in each statement. The reference of tnums: Do, its first ways. No condition but those in each statement. The reference of tnums: Do, its other ways. No condition but those in each statement. The reference of tnums: Do returns what the plain function on tnums says; old memory is as it was. No condition but those in each statement. The reference of tnums: the contracts with each struct given by its words. No condition. -/
import Derived.Test.YtjeanjbjngbfcaaProg
import Derived.Test.YtjeanjbjngbfcaaGp
import Derived.Test.YtjeanjbjngbfcaaGq
import Derived.StillTailTactics
namespace Hk
open Go Go.RowKit Go.Proofs
set_option linter.unusedSimpArgs false
set_option linter.unusedVariables false
set_option maxRecDepth 100000
theorem run_loadT (ρ : Operand → Value) (o : Oper) (x : Operand) (b : Nat) (c0 c1 : Value) (ho : o.op = .load 25 x) (hx : ρ x = .pointer (some ⟨b, 0, none⟩)) (w : World)
    (h0 : w.cell? ⟨b, 0, none⟩ = some c0) (h1 : w.cell? ⟨b, 1, none⟩ = some c1) : (execOp ρ o).run Try.prog w = .ok (.value (.agg #[c0, c1])) w := by
  obtain ⟨dst, op, type, pos, after, guard⟩ := o
  simp only at ho
  subst ho
  go_simp
theorem quiet_loadT {o : Oper} {a : Act} {C : World → Prop} {K : Act → Prop} {x : Operand} {b : Nat} {c0 c1 : Value} (ho : o.op = .load 25 x) (hx : a.eval x = .pointer (some ⟨b, 0, none⟩))
    (h : ∀ w, C w → w.cell? ⟨b, 0, none⟩ = some c0 ∧ w.cell? ⟨b, 1, none⟩ = some c1) (hk : K (a.put o.dst (.agg #[c0, c1]))) : o.quiet Try.prog a C K :=
  quiet_mk (v := .agg #[c0, c1]) (fun w hC => by unfold Oper.quietAt; rw [run_loadT _ o x b c0 c1 ho hx w (h w hC).1 (h w hC).2]; exact ⟨rfl, rfl⟩) hk
theorem run_loadW (ρ : Operand → Value) (o : Oper) (x : Operand) (b i : Nat) (c0 : Value) (ho : o.op = .load 23 x) (hx : ρ x = .pointer (some ⟨b, i, none⟩)) (w : World)
    (h0 : w.cell? ⟨b, i, none⟩ = some c0) : (execOp ρ o).run Try.prog w = .ok (.value c0) w := by
  obtain ⟨dst, op, type, pos, after, guard⟩ := o
  simp only at ho
  subst ho
  go_simp
theorem quiet_loadW {o : Oper} {a : Act} {C : World → Prop} {K : Act → Prop} {x : Operand} {b i : Nat} {c0 : Value} (ho : o.op = .load 23 x) (hx : a.eval x = .pointer (some ⟨b, i, none⟩))
    (h : ∀ w, C w → w.cell? ⟨b, i, none⟩ = some c0) (hk : K (a.put o.dst c0)) : o.quiet Try.prog a C K :=
  quiet_mk (v := c0) (fun w hC => by unfold Oper.quietAt; rw [run_loadW _ o x b i c0 ho hx w (h w hC)]; exact ⟨rfl, rfl⟩) hk

end Hk

namespace Hk
open Go Go.RowKit Go.Proofs
set_option linter.unusedSimpArgs false
set_option linter.unusedVariables false
set_option maxRecDepth 100000
attribute [go_sem] Tn.eta
theorem bit_c (n : BitVec 64) (k : Nat) (w : World) : Calls Try.prog 63 #[.int .u64 (N n), .int .i64 (k : Int)] w fun e w' => e = .returned (.bool (bt n k)) ∧ w = w' := by
  go_enter Try.func63, Try.ntmps63
  go_wp2
  go_ret
  exact ⟨by simp only [Int.toNat_natCast]; exact congrArg (fun b => Ending.returned (.bool b)) (bit_mod n k), rfl⟩

theorem r_right_c (a : Tn) (w : World) : Calls Try.prog 53 #[.agg #[.int .u64 (N a.v), .int .u64 (N a.m)]] w fun e w' => e = .returned (.bool a.right) ∧ Below w.heap.size w w' := by
  have key : (∀ j, j < 64 → (bt a.v j && bt a.m j) = false) → a.right = true := fun h => (Tn.right_iff a).2 h
  have key2 : ∀ j, j < 64 → (bt a.v j && bt a.m j) = true → a.right = false := fun j hj h => by
    cases hr : a.right
    · rfl
    · rw [(Tn.right_iff a).1 hr j hj] at h; cases h
  have K1 := Lib.hid key
  have K2 := Lib.hid key2
  clear key key2
  go_enter Try.func53, Try.ntmps53
  go_wp2_with fail
  go_loop [3] (fun i => ∃ k : Nat, k ≤ 64 ∧ i = .int .i64 k ∧ Hid (∀ j, j < k → (bt a.v j && bt a.m j) = false)) (fun i => 64 - (intOf i).toNat)
  case atStart => exact ⟨0, by omega, rfl, fun j hj => by omega⟩
  case round =>
    obtain ⟨k, hk, rfl, HA⟩ := hrel
    by_cases hlt : k < 64
    · cases h0 : bt a.v k <;> cases h1 : bt a.m k
      case true.true =>
        go_wp2_with (first | (go_at_call 63; (with_reducible refine (bit_c _ _ _).mono ?_); rintro e w1 ⟨rfl, rfl⟩))
        go_ret
        exact ⟨by rw [K2.out k hlt (by rw [h0, h1]; rfl)]; rfl, (by repeat' (first | (with_reducible exact Below.refl _ _) | (with_reducible assumption) | (with_reducible refine Below.alloc ?_ ?_ _) | (with_reducible refine Below.setCell ?_ ?_ _) | (with_reducible refine Below.drew ?_) | (with_reducible refine below_dn ?_ _) | (with_reducible refine Below.trans ?_ (Below.mono (by assumption) ?_)) | go_size))⟩
      all_goals
        go_wp2_with (first | (go_at_call 63; (with_reducible refine (bit_c _ _ _).mono ?_); rintro e w1 ⟨rfl, rfl⟩))
        go_round
        case rel => exact ⟨k + 1, by omega, by go_num, fun j hj => by
          rcases Nat.lt_or_ge j k with q | q
          · exact HA.out j q
          · obtain rfl : j = k := by omega
            simp [h0, h1]⟩
        case measure => simp [intOf]; omega
    · go_wp2
      go_ret
      exact ⟨by rw [K1.out (fun j hj => HA.out j (by omega))]; rfl, (by repeat' (first | (with_reducible exact Below.refl _ _) | (with_reducible assumption) | (with_reducible refine Below.alloc ?_ ?_ _) | (with_reducible refine Below.setCell ?_ ?_ _) | (with_reducible refine Below.drew ?_) | (with_reducible refine below_dn ?_ _) | (with_reducible refine Below.trans ?_ (Below.mono (by assumption) ?_)) | go_size))⟩

end Hk

namespace Hk
open Go Go.RowKit Go.Proofs
set_option linter.unusedSimpArgs false
set_option linter.unusedVariables false
set_option maxRecDepth 100000
/-- What stands in memory ahead of the round k: the result's variable, and t. -/
def MadeAt (x m : BitVec 64) (w : World) (k : Nat) (wr : World) : Prop :=
  wr.cell? ⟨w.heap.size + 1, 0, none⟩ = some (.int .u64 (N (upTo x k))) ∧ wr.cell? ⟨w.heap.size + 1, 1, none⟩ = some (.int .u64 (N m)) ∧
  wr.cell? ⟨w.heap.size, 0, none⟩ = some (.int .u64 (N 0#64)) ∧ wr.cell? ⟨w.heap.size, 1, none⟩ = some (.int .u64 (N 0#64)) ∧
  (∀ o, wr.frozen? ⟨w.heap.size, o, none⟩ = false) ∧ (∀ o, wr.frozen? ⟨w.heap.size + 1, o, none⟩ = false) ∧ w.heap.size + 1 < wr.heap.size ∧ Below w.heap.size w wr
theorem bt_andn (v m : BitVec 64) (k : Nat) (hk : k < 64) : bt (v &&& ~~~m) k = (bt v k && !bt m k) := by rw [bt_and, bt_not _ _ hk]
set_option maxHeartbeats 1000000 in
theorem r_made_c (v m : BitVec 64) (w : World) : Calls Try.prog 70 #[.int .u64 (N v), .int .u64 (N m)] w fun e w' => e = .returned (.agg #[.int .u64 (N (Tn.made v m).v), .int .u64 (N (Tn.made v m).m)]) ∧ Below w.heap.size w w' := by
  have E : upTo (v &&& ~~~m) 64 = (Tn.made v m).v := upTo_all _
  have HE := Lib.hid E
  clear E
  go_enter Try.func70, Try.ntmps70
  go_wp2_with fail
  go_loopw [6] (fun i wr => ∃ k : Nat, k ≤ 64 ∧ i = .int .i64 k ∧ MadeAt (v &&& ~~~m) m w k wr) (fun i _ => 64 - (intOf i).toNat)
  case atStart =>
    refine ⟨0, by omega, rfl, ?_⟩
    unfold MadeAt
    refine ⟨?_, ?_, ?_, ?_, ?_, ?_, (by (try simp only [World.size_alloc, World.size_setCell, World.size_drew]); omega), (by repeat' (first | (with_reducible exact Below.refl _ _) | (with_reducible assumption) | (with_reducible refine Below.alloc ?_ ?_ _) | (with_reducible refine Below.setCell ?_ ?_ _) | (with_reducible refine Below.drew ?_) | (with_reducible refine below_dn ?_ _) | (with_reducible refine Below.trans ?_ (Below.mono (by assumption) ?_)) | go_size))⟩
    all_goals first | (intro o; simp [go_sem]; done) | (simp [go_sem, upTo]; try rfl)
  case round =>
    obtain ⟨k, hk, rfl, c0, c1, c2, c3, f0, f1, hz, hb⟩ := hrel
    by_cases hlt : k < 64
    · have hx := bt_andn v m k hlt
      have HX := Lib.hid hx
      clear hx
      cases h0 : bt v k <;> cases h1 : bt m k
      case true.false =>
        go_wp2_with (first | (go_at_call 63; (with_reducible refine (bit_c _ _ _).mono ?_); rintro e w1 ⟨rfl, rfl⟩))
        go_region
        go_wp2
        go_roundw
        case rel =>
          refine ⟨k + 1, by omega, by go_num, ?_⟩
          have hx := HX.out
          rw [h0, h1] at hx
          unfold MadeAt
          refine ⟨?_, ?_, ?_, ?_, ?_, ?_, (by (try simp only [World.size_alloc, World.size_setCell, World.size_drew]); omega), (by repeat' (first | (with_reducible exact Below.refl _ _) | (with_reducible assumption) | (with_reducible refine Below.alloc ?_ ?_ _) | (with_reducible refine Below.setCell ?_ ?_ _) | (with_reducible refine Below.drew ?_) | (with_reducible refine below_dn ?_ _) | (with_reducible refine Below.trans ?_ (Below.mono (by assumption) ?_)) | go_size))⟩
          any_goals (intro o; simp [*, go_sem, ↓IntWalk.iteOmega]; done)
          all_goals (simp [*, go_sem, ↓IntWalk.iteOmega, upTo])
        case measure => simp [intOf]; omega
      all_goals
        go_wp2_with (first | (go_at_call 63; (with_reducible refine (bit_c _ _ _).mono ?_); rintro e w1 ⟨rfl, rfl⟩))
        go_roundw
        case rel =>
          refine ⟨k + 1, by omega, by go_num, ?_⟩
          have hx := HX.out
          rw [h0, h1] at hx
          unfold MadeAt
          refine ⟨?_, ?_, ?_, ?_, ?_, ?_, (by (try simp only [World.size_alloc, World.size_setCell, World.size_drew]); omega), (by repeat' (first | (with_reducible exact Below.refl _ _) | (with_reducible assumption) | (with_reducible refine Below.alloc ?_ ?_ _) | (with_reducible refine Below.setCell ?_ ?_ _) | (with_reducible refine Below.drew ?_) | (with_reducible refine below_dn ?_ _) | (with_reducible refine Below.trans ?_ (Below.mono (by assumption) ?_)) | go_size))⟩
          any_goals (intro o; simp [*, go_sem, ↓IntWalk.iteOmega]; done)
          all_goals (simp [*, go_sem, ↓IntWalk.iteOmega, upTo])
        case measure => simp [intOf]; omega
    · obtain rfl : k = 64 := by omega
      clear hlt
      go_wp2
      refine bodyPost_ret (v := .agg #[.int .u64 (N (Tn.made v m).v), .int .u64 (N (Tn.made v m).m)]) ?_ rfl ⟨rfl, (by repeat' (first | (with_reducible exact Below.refl _ _) | (with_reducible assumption) | (with_reducible refine Below.alloc ?_ ?_ _) | (with_reducible refine Below.setCell ?_ ?_ _) | (with_reducible refine Below.drew ?_) | (with_reducible refine below_dn ?_ _) | (with_reducible refine Below.trans ?_ (Below.mono (by assumption) ?_)) | go_size))⟩
      simp only [results, Try.results70]; rw [← HE.out]; simp [*, go_sem, ↓IntWalk.iteOmega]; try rfl

theorem r_both_c (a b : Tn) (w : World) : Calls Try.prog 68 #[.agg #[.int .u64 (N a.v), .int .u64 (N a.m)], .agg #[.int .u64 (N b.v), .int .u64 (N b.m)]] w fun e w' => e = .returned (.bool (a.right && b.right)) ∧ Below w.heap.size w w' := by
  cases ha : a.right
  all_goals
    go_enter Try.func68, Try.ntmps68
    go_wp2_with (first | (go_at_call 53; (with_reducible refine (r_right_c ⟨_, _⟩ _).mono ?_); rintro e w1 ⟨rfl, hb1⟩; obtain ⟨hc1, hf1, hz1⟩ := bcell hb1; (try simp only [World.size_alloc, World.size_setCell, World.size_drew] at hc1 hf1 hz1)))
    go_ret
    exact ⟨rfl, (by repeat' (first | (with_reducible exact Below.refl _ _) | (with_reducible assumption) | (with_reducible refine Below.alloc ?_ ?_ _) | (with_reducible refine Below.setCell ?_ ?_ _) | (with_reducible refine Below.drew ?_) | (with_reducible refine below_dn ?_ _) | (with_reducible refine Below.trans ?_ (Below.mono (by assumption) ?_)) | go_size))⟩

end Hk

namespace Hk
open Go Go.RowKit Go.Proofs
set_option linter.unusedSimpArgs false
set_option linter.unusedVariables false
set_option maxRecDepth 100000
end Hk

namespace Hk
open Go Go.RowKit Go.Proofs
set_option linter.unusedSimpArgs false
set_option linter.unusedVariables false
set_option maxRecDepth 100000
def WithinC (a b : Tn) (w : World) (w' : World) : Prop := w'.cell? ⟨w.heap.size, 0, none⟩ = some (.int .u64 (N a.v)) ∧ w'.cell? ⟨w.heap.size, 1, none⟩ = some (.int .u64 (N a.m)) ∧ w'.cell? ⟨w.heap.size + 1, 0, none⟩ = some (.int .u64 (N b.v)) ∧ w'.cell? ⟨w.heap.size + 1, 1, none⟩ = some (.int .u64 (N b.m)) ∧ Below w.heap.size w w'
theorem WithinC_keep {a b : Tn} {w : World} (w' w1 : World) (h : WithinC a b w w') (hb : Below w'.heap.size w' w1) : WithinC a b w w1 := by
  obtain ⟨k0, k1, k2, k3, k4⟩ := h
  exact ⟨cell_keep hb k0, cell_keep hb k1, cell_keep hb k2, cell_keep hb k3, below_next k4 hb⟩

set_option maxHeartbeats 4000000 in
theorem r_within_c (a b : Tn) (w : World) : Calls Try.prog 61 #[.agg #[.int .u64 (N a.v), .int .u64 (N a.m)], .agg #[.int .u64 (N b.v), .int .u64 (N b.m)]] w fun e w' => e = .returned (.bool (a.within b)) ∧ Below w.heap.size w w' := by
  have key : (∀ j, j < 64 → (!bt b.m j && (bt a.m j || (bt a.v j != bt b.v j))) = false) → a.within b = (a.right && b.right)
  := fun h => by
    cases ha : a.right
    · unfold Tn.within; rw [ha]; rfl
    · cases hb : b.right
      · unfold Tn.within; rw [hb]; simp
      · rw [Bool.and_self, Tn.within_iff]
        refine ⟨ha, hb, fun i hi hm => ?_⟩
        have h1 := h i hi
        revert h1
        rw [hm]
        cases bt a.m i <;> cases bt a.v i <;> cases bt b.v i <;> decide
  have key2 : ∀ j, j < 64 → (!bt b.m j && (bt a.m j || (bt a.v j != bt b.v j))) = true → a.within b = false
  := fun j hj h => by
    cases hr : a.within b
    · rfl
    · have h1 := ((Tn.within_iff a b).1 hr).2.2 j hj
      revert h h1
      cases bt b.m j <;> cases bt a.m j <;> cases bt a.v j <;> cases bt b.v j <;> decide
  have K1 := Lib.hid key
  have K2 := Lib.hid key2
  clear key key2
  go_enter Try.func61, Try.ntmps61
  go_wp2_with fail
  go_loopw [5] (fun i wr => ∃ k : Nat, k ≤ 64 ∧ i = .int .i64 k ∧ Hid (∀ j, j < k → (!bt b.m j && (bt a.m j || (bt a.v j != bt b.v j))) = false) ∧ WithinC a b w wr) (fun i _ => 64 - (intOf i).toNat)
  case atStart =>
    refine ⟨0, by omega, rfl, (fun j hj => by omega), ?_⟩
    refine ⟨?_, ?_, ?_, ?_, (by repeat' (first | (with_reducible exact Below.refl _ _) | (with_reducible assumption) | (with_reducible refine Below.alloc ?_ ?_ _) | (with_reducible refine Below.setCell ?_ ?_ _) | (with_reducible refine Below.drew ?_) | (with_reducible refine below_dn ?_ _) | (with_reducible refine Below.trans ?_ (Below.mono (by assumption) ?_)) | go_size))⟩
    all_goals first | (intro i; simp [*, go_sem, ↓IntWalk.iteOmega]; done) | (simp [*, go_sem, ↓IntWalk.iteOmega]; done)
  case round =>
    obtain ⟨k, hk, rfl, HA, k0, k1, k2, k3, k4⟩ := hrel
    have z0 := cell_lt k0
    have z2 := cell_lt k2
    by_cases hlt : k < 64
    · cases h0 : bt b.m k <;> cases h1 : bt a.m k <;> cases h2 : bt a.v k <;> cases h3 : bt b.v k
      all_goals
        have q : (!bt b.m k && (bt a.m k || (bt a.v k != bt b.v k))) = (!bt b.m k && (bt a.m k || (bt a.v k != bt b.v k))) := rfl
        simp only [h0, h1, h2, h3] at q
        clear q
        go_wp2_with fail
        refine wp_region_class (WithinC a b w) (by kernel_rfl) (by kernel_rfl) ?_ ?_
        · refine ⟨?_, ?_, ?_, ?_, (by repeat' (first | (with_reducible exact Below.refl _ _) | (with_reducible assumption) | (with_reducible refine Below.alloc ?_ ?_ _) | (with_reducible refine Below.setCell ?_ ?_ _) | (with_reducible refine Below.drew ?_) | (with_reducible refine below_dn ?_ _) | (with_reducible refine Below.trans ?_ (Below.mono (by assumption) ?_)) | go_size))⟩
          all_goals first | (intro i; simp [*, go_sem, ↓IntWalk.iteOmega]; done) | (simp [*, go_sem, ↓IntWalk.iteOmega]; done)
        intro hN
        (try simp only [List.append])
        repeat (first
          | go_big_quiet_skip
          | (go_big_quiet_want
             first
               | (refine quiet_loadT rfl rfl (fun w' hC => by obtain ⟨k0, k1, k2, k3, k4⟩ := hC; first | exact ⟨k0, k1⟩ | exact ⟨k2, k3⟩) ?_
                  simp only [Act.put, List.setIfInBounds_toArray, List.set_cons_succ, List.set_cons_zero]
                  go_big_quiet_on)
               | (refine quiet_loadW rfl rfl (fun w' hC => by obtain ⟨k0, k1, k2, k3, k4⟩ := hC; first | exact k0 | exact k1 | exact k2 | exact k3) ?_
                  simp only [Act.put, List.setIfInBounds_toArray, List.set_cons_succ, List.set_cons_zero]
                  go_big_quiet_on)
               | (go_big_quiet_op
                  first
                    | go_big_quiet_on
                    | (apply Exists.intro
                       refine ⟨fun w' hC => ?_, ?_⟩
                       · (first | (go_at_call 63; (with_reducible refine (bit_c _ _ _).mono ?_); rintro e w1 ⟨rfl, rfl⟩))
                         (try simp only [h0, h1, h2, h3])
                         exact ⟨rfl, by first | exact hC | exact WithinC_keep _ _ hC hb1⟩
                       go_big_quiet_on))))
        refine wpQuiet_nil ?_
        intro w9 hC
        obtain ⟨k0, k1, k2, k3, k4⟩ := hC
        have z0 := cell_lt k0
        have z2 := cell_lt k2
        first
          | (go_wp2
             go_roundw
             (case rel => exact ⟨k + 1, by omega, by go_num, (fun j hj => by
               rcases Nat.lt_or_ge j k with q | q
               · exact HA.out j q
               · obtain rfl : j = k := by omega
                 simp [h0, h1, h2, h3]), k0, k1, k2, k3, k4⟩)
             (case measure => simp [intOf]; omega))
          | (have z := K2.out k hlt (by simp [h0, h1, h2, h3])
             have Z := Lib.hid z
             clear z
             go_wp2
             go_ret
             exact ⟨by rw [Z.out]; rfl, k4⟩)
    · go_wp2_with (first | (go_at_call 68; (with_reducible refine (r_both_c ⟨_, _⟩ ⟨_, _⟩ _).mono ?_); rintro e w1 ⟨rfl, hb1⟩; obtain ⟨hc1, hf1, hz1⟩ := bcell hb1; (try simp only [World.size_alloc, World.size_setCell, World.size_drew] at hc1 hf1 hz1)))
      go_ret
      exact ⟨by rw [K1.out (fun j hj => HA.out j (by omega))]; rfl, below_next k4 hb1⟩

end Hk

namespace Hk
open Go Go.RowKit Go.Proofs
set_option linter.unusedSimpArgs false
set_option linter.unusedVariables false
set_option maxRecDepth 100000
def MeetC (a b : Tn) (w : World) (w' : World) : Prop := w'.cell? ⟨w.heap.size, 0, none⟩ = some (.int .u64 (N a.v)) ∧ w'.cell? ⟨w.heap.size, 1, none⟩ = some (.int .u64 (N a.m)) ∧ w'.cell? ⟨w.heap.size + 1, 0, none⟩ = some (.int .u64 (N b.v)) ∧ w'.cell? ⟨w.heap.size + 1, 1, none⟩ = some (.int .u64 (N b.m)) ∧ w'.cell? ⟨w.heap.size + 1 + 1, 0, none⟩ = some (.int .u64 (N (Tn.mk 0#64 0#64).v)) ∧ w'.cell? ⟨w.heap.size + 1 + 1, 1, none⟩ = some (.int .u64 (N (Tn.mk 0#64 0#64).m)) ∧ (∀ i, w'.frozen? ⟨w.heap.size + 1 + 1, i, none⟩ = false) ∧ Below w.heap.size w w'
theorem MeetC_keep {a b : Tn} {w : World} (w' w1 : World) (h : MeetC a b w w') (hb : Below w'.heap.size w' w1) : MeetC a b w w1 := by
  obtain ⟨k0, k1, k2, k3, k4, k5, k6, k7⟩ := h
  exact ⟨cell_keep hb k0, cell_keep hb k1, cell_keep hb k2, cell_keep hb k3, cell_keep hb k4, cell_keep hb k5, frozen_keep hb k4 k6, below_next k7 hb⟩

set_option maxHeartbeats 4000000 in
theorem r_meet_yes (a b : Tn) (ha : a.right = true) (hb : b.right = true) (w : World) : Calls Try.prog 65 #[.agg #[.int .u64 (N a.v), .int .u64 (N a.m)], .agg #[.int .u64 (N b.v), .int .u64 (N b.m)]] w fun e w' => e = .returned (.tuple #[.agg #[.int .u64 (N (Tn.meet a b).v), .int .u64 (N (Tn.meet a b).m)], .bool (Tn.meetOk a b)]) ∧ Below w.heap.size w w' := by
  have key : (∀ j, j < 64 → (!bt a.m j && !bt b.m j && (bt a.v j != bt b.v j)) = false) → Tn.meetOk a b = true ∧ Tn.meet a b = Tn.made (a.v ||| b.v) (a.m &&& b.m)
  := fun h => by
    have e : Tn.meetOk a b = true := by
      rw [Tn.meetOk_iff]
      refine ⟨ha, hb, fun i hi h1 h2 => ?_⟩
      have h3 := h i hi
      revert h3
      rw [h1, h2]
      cases bt a.v i <;> cases bt b.v i <;> decide
    exact ⟨e, by unfold Tn.meet; rw [if_pos e]⟩
  have key2 : ∀ j, j < 64 → (!bt a.m j && !bt b.m j && (bt a.v j != bt b.v j)) = true → Tn.meetOk a b = false ∧ Tn.meet a b = ⟨0#64, 0#64⟩
  := fun j hj h => by
    have e : Tn.meetOk a b = false := by
      cases hr : Tn.meetOk a b
      · rfl
      · have h1 := ((Tn.meetOk_iff a b).1 hr).2.2 j hj
        revert h h1
        cases bt b.m j <;> cases bt a.m j <;> cases bt a.v j <;> cases bt b.v j <;> decide
    exact ⟨e, by unfold Tn.meet; rw [e]; rfl⟩
  have K1 := Lib.hid key
  have K2 := Lib.hid key2
  clear key key2
  go_enter Try.func65, Try.ntmps65
  go_wp2_with (first | (go_at_call 68; (with_reducible refine (r_both_c ⟨_, _⟩ ⟨_, _⟩ _).mono ?_); rintro e w1 ⟨rfl, hb1⟩; obtain ⟨hc1, hf1, hz1⟩ := bcell hb1; (try simp only [World.size_alloc, World.size_setCell, World.size_drew] at hc1 hf1 hz1)))
  go_loopw [6] (fun i wr => ∃ k : Nat, k ≤ 64 ∧ i = .int .i64 k ∧ Hid (∀ j, j < k → (!bt a.m j && !bt b.m j && (bt a.v j != bt b.v j)) = false) ∧ MeetC a b w wr) (fun i _ => 64 - (intOf i).toNat)
  case atStart =>
    refine ⟨0, by omega, rfl, (fun j hj => by omega), ?_⟩
    refine ⟨?_, ?_, ?_, ?_, ?_, ?_, ?_, (by repeat' (first | (with_reducible exact Below.refl _ _) | (with_reducible assumption) | (with_reducible refine Below.alloc ?_ ?_ _) | (with_reducible refine Below.setCell ?_ ?_ _) | (with_reducible refine Below.drew ?_) | (with_reducible refine below_dn ?_ _) | (with_reducible refine Below.trans ?_ (Below.mono (by assumption) ?_)) | go_size))⟩
    all_goals first | (intro i; simp [*, go_sem, ↓IntWalk.iteOmega]; done) | (simp [*, go_sem, ↓IntWalk.iteOmega]; done)
  case round =>
    obtain ⟨k, hk, rfl, HA, k0, k1, k2, k3, k4, k5, k6, k7⟩ := hrel
    have z0 := cell_lt k0
    have z2 := cell_lt k2
    have z4 := cell_lt k4
    by_cases hlt : k < 64
    · cases h0 : bt a.m k <;> cases h1 : bt b.m k <;> cases h2 : bt a.v k <;> cases h3 : bt b.v k
      all_goals
        have q : (!bt a.m k && !bt b.m k && (bt a.v k != bt b.v k)) = (!bt a.m k && !bt b.m k && (bt a.v k != bt b.v k)) := rfl
        simp only [h0, h1, h2, h3] at q
        clear q
        go_wp2_with fail
        refine wp_region_class (MeetC a b w) (by kernel_rfl) (by kernel_rfl) ?_ ?_
        · refine ⟨?_, ?_, ?_, ?_, ?_, ?_, ?_, (by repeat' (first | (with_reducible exact Below.refl _ _) | (with_reducible assumption) | (with_reducible refine Below.alloc ?_ ?_ _) | (with_reducible refine Below.setCell ?_ ?_ _) | (with_reducible refine Below.drew ?_) | (with_reducible refine below_dn ?_ _) | (with_reducible refine Below.trans ?_ (Below.mono (by assumption) ?_)) | go_size))⟩
          all_goals first | (intro i; simp [*, go_sem, ↓IntWalk.iteOmega]; done) | (simp [*, go_sem, ↓IntWalk.iteOmega]; done)
        intro hN
        (try simp only [List.append])
        repeat (first
          | go_big_quiet_skip
          | (go_big_quiet_want
             first
               | (refine quiet_loadT rfl rfl (fun w' hC => by obtain ⟨k0, k1, k2, k3, k4, k5, k6, k7⟩ := hC; first | exact ⟨k0, k1⟩ | exact ⟨k2, k3⟩ | exact ⟨k4, k5⟩) ?_
                  simp only [Act.put, List.setIfInBounds_toArray, List.set_cons_succ, List.set_cons_zero]
                  go_big_quiet_on)
               | (refine quiet_loadW rfl rfl (fun w' hC => by obtain ⟨k0, k1, k2, k3, k4, k5, k6, k7⟩ := hC; first | exact k0 | exact k1 | exact k2 | exact k3 | exact k4 | exact k5) ?_
                  simp only [Act.put, List.setIfInBounds_toArray, List.set_cons_succ, List.set_cons_zero]
                  go_big_quiet_on)
               | (go_big_quiet_op
                  first
                    | go_big_quiet_on
                    | (apply Exists.intro
                       refine ⟨fun w' hC => ?_, ?_⟩
                       · (first | (go_at_call 63; (with_reducible refine (bit_c _ _ _).mono ?_); rintro e w1 ⟨rfl, rfl⟩))
                         (try simp only [h0, h1, h2, h3])
                         exact ⟨rfl, by first | exact hC | exact MeetC_keep _ _ hC hb1⟩
                       go_big_quiet_on))))
        refine wpQuiet_nil ?_
        intro w9 hC
        obtain ⟨k0, k1, k2, k3, k4, k5, k6, k7⟩ := hC
        have z0 := cell_lt k0
        have z2 := cell_lt k2
        have z4 := cell_lt k4
        first
          | (go_wp2
             go_roundw
             (case rel => exact ⟨k + 1, by omega, by go_num, (fun j hj => by
               rcases Nat.lt_or_ge j k with q | q
               · exact HA.out j q
               · obtain rfl : j = k := by omega
                 simp [h0, h1, h2, h3]), k0, k1, k2, k3, k4, k5, k6, k7⟩)
             (case measure => simp [intOf]; omega))
          | (have z := K2.out k hlt (by simp [h0, h1, h2, h3])
             have Z := Lib.hid z
             clear z
             go_wp2
             refine bodyPost_ret (v := .tuple #[.agg #[.int .u64 (N (Tn.meet a b).v), .int .u64 (N (Tn.meet a b).m)], .bool (Tn.meetOk a b)]) ?_ rfl ⟨rfl, (by first | exact k7 | repeat' (first | (with_reducible exact Below.refl _ _) | (with_reducible assumption) | (with_reducible refine Below.alloc ?_ ?_ _) | (with_reducible refine Below.setCell ?_ ?_ _) | (with_reducible refine Below.drew ?_) | (with_reducible refine below_dn ?_ _) | (with_reducible refine Below.trans ?_ (Below.mono (by assumption) ?_)) | go_size))⟩
             simp only [results, Try.results65]; rw [Z.out.1, Z.out.2]; simp [*, go_sem, ↓IntWalk.iteOmega]; try (first | rfl | exact ⟨rfl, rfl⟩ | exact ⟨⟨rfl, rfl⟩, rfl⟩))
    · have z := K1.out (fun j hj => HA.out j (by omega))
      have Z := Lib.hid z
      clear z
      go_wp2_with (first | (go_at_call 70; (with_reducible refine (r_made_c _ _ _).mono ?_); rintro e w1 ⟨rfl, hb1⟩; obtain ⟨hc1, hf1, hz1⟩ := bcell hb1; (try simp only [World.size_alloc, World.size_setCell, World.size_drew] at hc1 hf1 hz1)))
      refine bodyPost_ret (v := .tuple #[.agg #[.int .u64 (N (Tn.meet a b).v), .int .u64 (N (Tn.meet a b).m)], .bool (Tn.meetOk a b)]) ?_ rfl ⟨rfl, (by repeat' (first | (with_reducible exact Below.refl _ _) | (with_reducible assumption) | (with_reducible refine Below.alloc ?_ ?_ _) | (with_reducible refine Below.setCell ?_ ?_ _) | (with_reducible refine Below.drew ?_) | (with_reducible refine below_dn ?_ _) | (with_reducible refine Below.trans ?_ (Below.mono (by assumption) ?_)) | go_size))⟩
      simp only [results, Try.results65]; rw [Z.out.1, Z.out.2]; simp [*, go_sem, ↓IntWalk.iteOmega]; try (first | rfl | exact ⟨rfl, rfl⟩ | exact ⟨⟨rfl, rfl⟩, rfl⟩)

theorem r_meet_no (a b : Tn) (h : (a.right && b.right) = false) (w : World) : Calls Try.prog 65 #[.agg #[.int .u64 (N a.v), .int .u64 (N a.m)], .agg #[.int .u64 (N b.v), .int .u64 (N b.m)]] w fun e w' => e = .returned (.tuple #[.agg #[.int .u64 (N (Tn.meet a b).v), .int .u64 (N (Tn.meet a b).m)], .bool (Tn.meetOk a b)]) ∧ Below w.heap.size w w' := by
  have e : Tn.meetOk a b = false := by unfold Tn.meetOk; rw [h]; rfl
  have e' : Tn.meet a b = ⟨0#64, 0#64⟩ := by unfold Tn.meet; rw [e]; rfl
  rw [e, e']
  clear e e'
  go_enter Try.func65, Try.ntmps65
  go_wp2_with (first | (go_at_call 68; (with_reducible refine (r_both_c ⟨_, _⟩ ⟨_, _⟩ _).mono ?_); rintro e w1 ⟨rfl, hb1⟩; obtain ⟨hc1, hf1, hz1⟩ := bcell hb1; (try simp only [World.size_alloc, World.size_setCell, World.size_drew] at hc1 hf1 hz1)))
  refine bodyPost_ret ?_ rfl ⟨rfl, (by repeat' (first | (with_reducible exact Below.refl _ _) | (with_reducible assumption) | (with_reducible refine Below.alloc ?_ ?_ _) | (with_reducible refine Below.setCell ?_ ?_ _) | (with_reducible refine Below.drew ?_) | (with_reducible refine below_dn ?_ _) | (with_reducible refine Below.trans ?_ (Below.mono (by assumption) ?_)) | go_size))⟩
  simp only [results, Try.results65]; simp [*, go_sem, ↓IntWalk.iteOmega]; try (first | rfl | exact ⟨rfl, rfl⟩)

theorem r_meet_c (a b : Tn) (w : World) : Calls Try.prog 65 #[.agg #[.int .u64 (N a.v), .int .u64 (N a.m)], .agg #[.int .u64 (N b.v), .int .u64 (N b.m)]] w fun e w' => e = .returned (.tuple #[.agg #[.int .u64 (N (Tn.meet a b).v), .int .u64 (N (Tn.meet a b).m)], .bool (Tn.meetOk a b)]) ∧ Below w.heap.size w w' := by
  cases h : (a.right && b.right)
  · exact r_meet_no a b h w
  · rw [Bool.and_eq_true] at h
    exact r_meet_yes a b h.1 h.2 w

end Hk

namespace Hk
open Go Go.RowKit Go.Proofs
set_option linter.unusedSimpArgs false
set_option linter.unusedVariables false
set_option maxRecDepth 100000
theorem mod_low (x : BitVec 64) (k : Nat) (hk : k ≤ 63) : x % 1#64 <<< k = x &&& Tn.low k := by
  have e : (1#64 <<< k).toNat = 2 ^ k := by
    rw [BitVec.toNat_shiftLeft, Nat.shiftLeft_eq]
    have : (2 : Nat) ^ k < 2 ^ 64 := Nat.pow_lt_pow_right (by omega) (by omega)
    have e1 : (1#64).toNat = 1 := rfl
    rw [e1, Nat.one_mul, Nat.mod_eq_of_lt this]
  apply BitVec.eq_of_toNat_eq
  have hp := Nat.two_pow_pos k
  have hq : (2 : Nat) ^ k < 2 ^ 64 := Nat.pow_lt_pow_right (by omega) (by omega)
  have e2 : (Tn.low k).toNat = 2 ^ k - 1 := by
    unfold Tn.low
    rw [BitVec.toNat_sub, e]
    have e1 : (1#64).toNat = 1 := rfl
    rw [e1]
    omega
  rw [BitVec.toNat_umod, BitVec.toNat_and, e, e2, Nat.and_two_pow_sub_one_eq_mod]

theorem pw_ne (k : Int) (h0 : 0 ≤ k) (h1 : k ≤ 63) : 1#64 <<< k.toNat ≠ 0#64 := by
  intro h
  have := congrArg BitVec.toNat h
  rw [BitVec.toNat_shiftLeft, Nat.shiftLeft_eq] at this
  have e : (2 : Nat) ^ k.toNat < 2 ^ 64 := Nat.pow_lt_pow_right (by omega) (by omega)
  have e1 : (1#64).toNat = 1 := rfl
  rw [e1, Nat.one_mul, Nat.mod_eq_of_lt e] at this
  have := Nat.two_pow_pos k.toNat
  simp at *

/-- What stands in memory ahead of the round k. -/
def LoopAt (a b : Tn) (x y : BitVec 64) (w : World) (wr : World) : Prop :=
  wr.cell? ⟨w.heap.size, 0, none⟩ = some (.int .u64 (N a.v)) ∧ wr.cell? ⟨w.heap.size, 1, none⟩ = some (.int .u64 (N a.m)) ∧
  wr.cell? ⟨w.heap.size + 1, 0, none⟩ = some (.int .u64 (N b.v)) ∧ wr.cell? ⟨w.heap.size + 1, 1, none⟩ = some (.int .u64 (N b.m)) ∧
  wr.cell? ⟨w.heap.size + 1 + 1, 0, none⟩ = some (.int .u64 (N 0#64)) ∧ wr.cell? ⟨w.heap.size + 1 + 1, 1, none⟩ = some (.int .u64 (N 0#64)) ∧
  wr.cell? ⟨w.heap.size + 1 + 1 + 1, 0, none⟩ = some (.int .u64 (N x)) ∧ wr.cell? ⟨w.heap.size + 1 + 1 + 1, 1, none⟩ = some (.int .u64 (N y)) ∧
  (∀ o, wr.frozen? ⟨w.heap.size + 1 + 1, o, none⟩ = false) ∧ (∀ o, wr.frozen? ⟨w.heap.size + 1 + 1 + 1, o, none⟩ = false) ∧ w.heap.size + 1 + 1 + 1 < wr.heap.size ∧ Below w.heap.size w wr
theorem bt_may (a b : Tn) (k : Nat) (hk : k < 64) : bt (Tn.and a b).m k = ((bt a.v k || bt a.m k) && (bt b.v k || bt b.m k) && !(bt a.v k && bt b.v k)) := by
  show bt ((a.v ||| a.m) &&& (b.v ||| b.m) &&& ~~~(a.v &&& b.v)) k = _
  simp only [bt_and, bt_or, bt_not _ _ hk]

end Hk

namespace Hk
open Go Go.RowKit Go.Proofs
set_option linter.unusedSimpArgs false
set_option linter.unusedVariables false
set_option maxRecDepth 100000
theorem wp_region_tail {P : Program} {id : Nat} {Q : Exit → Act → World → Prop} {a : Act} {w : World} {l : List Oper} (n : Nat) (hm : P.follows .mixedOrders = true) (hB : Region.lexTailB .any l.toArray n = true)
    (h : wpStill P l.toArray w.drew (fun a' => wpList P l.toArray Q (l.drop n) a' w.drew) (l.take n) a) : (Code.region id l.toArray true).wp P Q a w := wp_region_still_tail n hm hB h

end Hk

namespace Hk
open Go Go.RowKit Go.Proofs
set_option linter.unusedSimpArgs false
set_option linter.unusedVariables false
set_option maxRecDepth 100000
end Hk

namespace Hk
open Go Go.RowKit Go.Proofs
set_option linter.unusedSimpArgs false
set_option linter.unusedVariables false
set_option maxRecDepth 100000
end Hk

namespace Hk
open Go Go.RowKit Go.Proofs
set_option linter.unusedSimpArgs false
set_option linter.unusedVariables false
set_option maxRecDepth 100000
end Hk

namespace Hk
open Go Go.RowKit Go.Proofs
set_option linter.unusedSimpArgs false
set_option linter.unusedVariables false
set_option maxRecDepth 100000
attribute [go_sem] Tn.eta
theorem r_right_c' (x0 y0 : BitVec 64) (w : World) : Calls Try.prog 53 #[.agg #[.int .u64 (N x0), .int .u64 (N y0)]] w fun e w' => e = .returned (.bool (Tn.right (⟨x0, y0⟩ : Tn))) ∧ Below w.heap.size w w' := by
  exact r_right_c (⟨x0, y0⟩ : Tn) w

theorem r_within_c' (x0 y0 : BitVec 64) (x1 y1 : BitVec 64) (w : World) : Calls Try.prog 61 #[.agg #[.int .u64 (N x0), .int .u64 (N y0)], .agg #[.int .u64 (N x1), .int .u64 (N y1)]] w fun e w' => e = .returned (.bool (Tn.within (⟨x0, y0⟩ : Tn) (⟨x1, y1⟩ : Tn))) ∧ Below w.heap.size w w' := by
  exact r_within_c (⟨x0, y0⟩ : Tn) (⟨x1, y1⟩ : Tn) w

theorem r_meet_c' (x0 y0 : BitVec 64) (x1 y1 : BitVec 64) (w : World) : Calls Try.prog 65 #[.agg #[.int .u64 (N x0), .int .u64 (N y0)], .agg #[.int .u64 (N x1), .int .u64 (N y1)]] w fun e w' => e = .returned (.tuple #[.agg #[.int .u64 (N (Tn.meet (⟨x0, y0⟩ : Tn) (⟨x1, y1⟩ : Tn)).v), .int .u64 (N (Tn.meet (⟨x0, y0⟩ : Tn) (⟨x1, y1⟩ : Tn)).m)], .bool (Tn.meetOk (⟨x0, y0⟩ : Tn) (⟨x1, y1⟩ : Tn))]) ∧ Below w.heap.size w w' := by
  exact r_meet_c (⟨x0, y0⟩ : Tn) (⟨x1, y1⟩ : Tn) w

end Hk

