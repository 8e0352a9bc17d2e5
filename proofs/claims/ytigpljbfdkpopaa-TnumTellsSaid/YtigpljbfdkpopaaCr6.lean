/- The reference of tnums: Cut, and; old memory is as it was. No condition but those in each statement. -/
import Derived.Test.YtigpljbfdkpopaaProg
import Derived.Test.YtigpljbfdkpopaaWd
import Derived.Test.YtigpljbfdkpopaaTn
import Derived.Test.YtigpljbfdkpopaaCr1
import Derived.Test.YtigpljbfdkpopaaCr2
import Derived.Test.YtigpljbfdkpopaaLd
namespace Hk
open Go Go.RowKit Go.Proofs
set_option linter.unusedSimpArgs false
set_option linter.unusedVariables false
set_option maxRecDepth 100000
theorem r_cut_no1 (t : Tn) (k : Int) (hr : t.right = false) (w : World) : Calls Try.prog 27 #[.agg #[.int .u64 (N t.v), .int .u64 (N t.m)], .int .i64 k] w fun e w' => e = .returned (.agg #[.int .u64 (N (Tn.cutI t k).v), .int .u64 (N (Tn.cutI t k).m)]) ∧ Below w.heap.size w w' := by
  go_enter Try.func27, Try.ntmps27
  go_wp2_with (first | (go_at_call 23; (with_reducible refine (r_right_c ⟨_, _⟩ _).mono ?_); rintro e w1 ⟨rfl, hb1⟩; obtain ⟨hc1, hf1, hz1⟩ := bcell hb1; (try simp only [World.size_alloc, World.size_setCell, World.size_drew] at hc1 hf1 hz1)))
  refine bodyPost_ret (v := .agg #[.int .u64 (N (Tn.cutI t k).v), .int .u64 (N (Tn.cutI t k).m)]) ?_ rfl ⟨rfl, (by repeat' (first | (with_reducible exact Below.refl _ _) | (with_reducible assumption) | (with_reducible refine Below.alloc ?_ ?_ _) | (with_reducible refine Below.setCell ?_ ?_ _) | (with_reducible refine Below.drew ?_) | (with_reducible refine Below.trans ?_ (Below.mono (by assumption) ?_)) | go_size))⟩
  rw [Tn.cutI_no hr]
  simp only [results, Try.results27]; simp [*, go_sem, ↓IntWalk.iteOmega]; try (first | rfl | exact ⟨rfl, rfl⟩)

theorem r_cut_out1 (t : Tn) (k : Int) (hr : t.right = true) (h : k < 1) (w : World) : Calls Try.prog 27 #[.agg #[.int .u64 (N t.v), .int .u64 (N t.m)], .int .i64 k] w fun e w' => e = .returned (.agg #[.int .u64 (N (Tn.cutI t k).v), .int .u64 (N (Tn.cutI t k).m)]) ∧ Below w.heap.size w w' := by
  go_enter Try.func27, Try.ntmps27
  go_wp2_with (first | (go_at_call 23; (with_reducible refine (r_right_c ⟨_, _⟩ _).mono ?_); rintro e w1 ⟨rfl, hb1⟩; obtain ⟨hc1, hf1, hz1⟩ := bcell hb1; (try simp only [World.size_alloc, World.size_setCell, World.size_drew] at hc1 hf1 hz1)))
  refine bodyPost_ret (v := .agg #[.int .u64 (N (Tn.cutI t k).v), .int .u64 (N (Tn.cutI t k).m)]) ?_ rfl ⟨rfl, (by repeat' (first | (with_reducible exact Below.refl _ _) | (with_reducible assumption) | (with_reducible refine Below.alloc ?_ ?_ _) | (with_reducible refine Below.setCell ?_ ?_ _) | (with_reducible refine Below.drew ?_) | (with_reducible refine Below.trans ?_ (Below.mono (by assumption) ?_)) | go_size))⟩
  rw [Tn.cutI_out hr (.inl h)]
  simp only [results, Try.results27]; simp [*, go_sem, ↓IntWalk.iteOmega]; try (first | rfl | exact ⟨rfl, rfl⟩)

theorem r_cut_out2 (t : Tn) (k : Int) (hr : t.right = true) (h : 63 < k) (w : World) : Calls Try.prog 27 #[.agg #[.int .u64 (N t.v), .int .u64 (N t.m)], .int .i64 k] w fun e w' => e = .returned (.agg #[.int .u64 (N (Tn.cutI t k).v), .int .u64 (N (Tn.cutI t k).m)]) ∧ Below w.heap.size w w' := by
  have h2 : ¬ k < 1 := by omega
  go_enter Try.func27, Try.ntmps27
  go_wp2_with (first | (go_at_call 23; (with_reducible refine (r_right_c ⟨_, _⟩ _).mono ?_); rintro e w1 ⟨rfl, hb1⟩; obtain ⟨hc1, hf1, hz1⟩ := bcell hb1; (try simp only [World.size_alloc, World.size_setCell, World.size_drew] at hc1 hf1 hz1)))
  refine bodyPost_ret (v := .agg #[.int .u64 (N (Tn.cutI t k).v), .int .u64 (N (Tn.cutI t k).m)]) ?_ rfl ⟨rfl, (by repeat' (first | (with_reducible exact Below.refl _ _) | (with_reducible assumption) | (with_reducible refine Below.alloc ?_ ?_ _) | (with_reducible refine Below.setCell ?_ ?_ _) | (with_reducible refine Below.drew ?_) | (with_reducible refine Below.trans ?_ (Below.mono (by assumption) ?_)) | go_size))⟩
  rw [Tn.cutI_out hr (.inr h)]
  simp only [results, Try.results27]; simp [*, go_sem, ↓IntWalk.iteOmega]; try (first | rfl | exact ⟨rfl, rfl⟩)

theorem mod_low (x : BitVec 64) (k : Nat) (hk : k ≤ 63) : x % 1#64 <<< k = x &&& Tn.low k := by
  have e : (1#64 <<< k).toNat = 2 ^ k := by
    rw [BitVec.toNat_shiftLeft, Nat.shiftLeft_eq]
    have : (2 : Nat) ^ k < 2 ^ 64 := Nat.pow_lt_pow_right (by omega) (by omega)
    have e1 : (1#64).toNat = 1 := rfl
    rw [e1, Nat.one_mul, Nat.mod_eq_of_lt this]
  apply BitVec.eq_of_toNat_eq
  have hp := Nat.two_pow_pos k
  have hq : (2 : Nat) ^ k < 2 ^ 64 := Nat.pow_lt_pow_right (by omega) (by omega)
  have e2 : (Tn.low k).toNat = 2 ^ k - 1 := by
    unfold Tn.low
    rw [BitVec.toNat_sub, e]
    have e1 : (1#64).toNat = 1 := rfl
    rw [e1]
    omega
  rw [BitVec.toNat_umod, BitVec.toNat_and, e, e2, Nat.and_two_pow_sub_one_eq_mod]

theorem pw_ne (k : Int) (h0 : 0 ≤ k) (h1 : k ≤ 63) : 1#64 <<< k.toNat ≠ 0#64 := by
  intro h
  have := congrArg BitVec.toNat h
  rw [BitVec.toNat_shiftLeft, Nat.shiftLeft_eq] at this
  have e : (2 : Nat) ^ k.toNat < 2 ^ 64 := Nat.pow_lt_pow_right (by omega) (by omega)
  have e1 : (1#64).toNat = 1 := rfl
  rw [e1, Nat.one_mul, Nat.mod_eq_of_lt e] at this
  have := Nat.two_pow_pos k.toNat
  simp at *

theorem r_cut_in (t : Tn) (k : Int) (hr : t.right = true) (h0 : 1 ≤ k) (h1 : k ≤ 63) (w : World) : Calls Try.prog 27 #[.agg #[.int .u64 (N t.v), .int .u64 (N t.m)], .int .i64 k] w fun e w' => e = .returned (.agg #[.int .u64 (N (Tn.cutI t k).v), .int .u64 (N (Tn.cutI t k).m)]) ∧ Below w.heap.size w w' := by
  have h2 : ¬ k < 1 := by omega
  have h3 : ¬ 63 < k := by omega
  have h4 : 0 ≤ k := by omega
  have h5 := pw_ne k h4 h1
  have E := Tn.cutI_in hr h0 h1
  have HE := Lib.hid E
  clear E
  go_enter Try.func27, Try.ntmps27
  go_wp2_with (first | (go_at_call 23; (with_reducible refine (r_right_c ⟨_, _⟩ _).mono ?_); rintro e w1 ⟨rfl, hb1⟩; obtain ⟨hc1, hf1, hz1⟩ := bcell hb1; (try simp only [World.size_alloc, World.size_setCell, World.size_drew] at hc1 hf1 hz1)))
  go_region
  go_wp2
  refine bodyPost_ret (v := .agg #[.int .u64 (N (Tn.cutI t k).v), .int .u64 (N (Tn.cutI t k).m)]) ?_ rfl ⟨rfl, (by repeat' (first | (with_reducible exact Below.refl _ _) | (with_reducible assumption) | (with_reducible refine Below.alloc ?_ ?_ _) | (with_reducible refine Below.setCell ?_ ?_ _) | (with_reducible refine Below.drew ?_) | (with_reducible refine Below.trans ?_ (Below.mono (by assumption) ?_)) | go_size))⟩
  simp only [results, Try.results27]; rw [HE.out]; simp [*, go_sem, ↓IntWalk.iteOmega, Tn.cut, mod_low _ _ (show k.toNat ≤ 63 by omega)]; try (first | rfl | exact ⟨rfl, rfl⟩)

theorem r_cut_c (t : Tn) (k : Int) (w : World) : Calls Try.prog 27 #[.agg #[.int .u64 (N t.v), .int .u64 (N t.m)], .int .i64 k] w fun e w' => e = .returned (.agg #[.int .u64 (N (Tn.cutI t k).v), .int .u64 (N (Tn.cutI t k).m)]) ∧ Below w.heap.size w w' := by
  cases hr : t.right
  · exact r_cut_no1 t k hr w
  by_cases h0 : k < 1
  · exact r_cut_out1 t k hr h0 w
  by_cases h1 : 63 < k
  · exact r_cut_out2 t k hr h1 w
  exact r_cut_in t k hr (by omega) (by omega) w

/-- What stands in memory ahead of the round k. -/
def LoopAt (a b : Tn) (x y : BitVec 64) (w : World) (wr : World) : Prop :=
  wr.cell? ⟨w.heap.size, 0, none⟩ = some (.int .u64 (N a.v)) ∧ wr.cell? ⟨w.heap.size, 1, none⟩ = some (.int .u64 (N a.m)) ∧
  wr.cell? ⟨w.heap.size + 1, 0, none⟩ = some (.int .u64 (N b.v)) ∧ wr.cell? ⟨w.heap.size + 1, 1, none⟩ = some (.int .u64 (N b.m)) ∧
  wr.cell? ⟨w.heap.size + 1 + 1, 0, none⟩ = some (.int .u64 (N 0#64)) ∧ wr.cell? ⟨w.heap.size + 1 + 1, 1, none⟩ = some (.int .u64 (N 0#64)) ∧
  wr.cell? ⟨w.heap.size + 1 + 1 + 1, 0, none⟩ = some (.int .u64 (N x)) ∧ wr.cell? ⟨w.heap.size + 1 + 1 + 1, 1, none⟩ = some (.int .u64 (N y)) ∧
  (∀ o, wr.frozen? ⟨w.heap.size + 1 + 1, o, none⟩ = false) ∧ (∀ o, wr.frozen? ⟨w.heap.size + 1 + 1 + 1, o, none⟩ = false) ∧ w.heap.size + 1 + 1 + 1 < wr.heap.size ∧ Below w.heap.size w wr
theorem bt_may (a b : Tn) (k : Nat) (hk : k < 64) : bt (Tn.and a b).m k = ((bt a.v k || bt a.m k) && (bt b.v k || bt b.m k) && !(bt a.v k && bt b.v k)) := by
  show bt ((a.v ||| a.m) &&& (b.v ||| b.m) &&& ~~~(a.v &&& b.v)) k = _
  simp only [bt_and, bt_or, bt_not _ _ hk]

set_option maxHeartbeats 2000000 in
theorem r_and_c (a b : Tn) (w : World) : Calls Try.prog 36 #[.agg #[.int .u64 (N a.v), .int .u64 (N a.m)], .agg #[.int .u64 (N b.v), .int .u64 (N b.m)]] w fun e w' => e = .returned (.agg #[.int .u64 (N (Tn.and a b).v), .int .u64 (N (Tn.and a b).m)]) ∧ Below w.heap.size w w' := by
  have E : upTo (a.v &&& b.v) 64 = (Tn.and a b).v ∧ upTo (Tn.and a b).m 64 = (Tn.and a b).m := ⟨upTo_all _, upTo_all _⟩
  have HE := Lib.hid E
  clear E
  go_enter Try.func36, Try.ntmps36
  go_wp2_with fail
  go_loopw [6] (fun i wr => ∃ k : Nat, k ≤ 64 ∧ i = .int .i64 k ∧ LoopAt a b (upTo (a.v &&& b.v) k) (upTo (Tn.and a b).m k) w wr) (fun i _ => 64 - (intOf i).toNat)
  case atStart =>
    refine ⟨0, by omega, rfl, ?_⟩
    unfold LoopAt
    refine ⟨?_, ?_, ?_, ?_, ?_, ?_, ?_, ?_, ?_, ?_, (by (try simp only [World.size_alloc, World.size_setCell, World.size_drew]); omega), (by repeat' (first | (with_reducible exact Below.refl _ _) | (with_reducible assumption) | (with_reducible refine Below.alloc ?_ ?_ _) | (with_reducible refine Below.setCell ?_ ?_ _) | (with_reducible refine Below.drew ?_) | (with_reducible refine Below.trans ?_ (Below.mono (by assumption) ?_)) | go_size))⟩
    all_goals first | (intro o; simp [go_sem]; done) | (simp [go_sem, upTo]; try rfl)
  case round =>
    obtain ⟨k, hk, rfl, c0, c1, c2, c3, c4, c5, c6, c7, f0, f1, hz, hb⟩ := hrel
    by_cases hlt : k < 64
    · have hx := bt_and a.v b.v k
      have hy := bt_may a b k hlt
      have HX := Lib.hid hx
      have HY := Lib.hid hy
      clear hx hy
      cases h0 : bt a.v k <;> cases h1 : bt b.v k <;> cases h2 : bt a.m k <;> cases h3 : bt b.m k
      all_goals
        go_wp2_with (first | (go_at_call 41; (with_reducible refine (bit_c _ _ _).mono ?_); rintro e w1 ⟨rfl, rfl⟩))
        (try go_region)
        (try go_wp2)
        go_roundw
        case rel =>
          refine ⟨k + 1, by omega, by go_num, ?_⟩
          have hx := HX.out
          have hy := HY.out
          simp only [h0, h1, h2, h3, Bool.or_false, Bool.or_true, Bool.and_false, Bool.and_true, Bool.not_true, Bool.not_false, Bool.false_or, Bool.true_or, Bool.true_and, Bool.false_and, Bool.or_self, Bool.and_self] at hx hy
          unfold LoopAt
          refine ⟨?_, ?_, ?_, ?_, ?_, ?_, ?_, ?_, ?_, ?_, (by (try simp only [World.size_alloc, World.size_setCell, World.size_drew]); omega), (by repeat' (first | (with_reducible exact Below.refl _ _) | (with_reducible assumption) | (with_reducible refine Below.alloc ?_ ?_ _) | (with_reducible refine Below.setCell ?_ ?_ _) | (with_reducible refine Below.drew ?_) | (with_reducible refine Below.trans ?_ (Below.mono (by assumption) ?_)) | go_size))⟩
          any_goals (intro o; simp [*, go_sem, ↓IntWalk.iteOmega]; done)
          all_goals (simp [*, go_sem, ↓IntWalk.iteOmega, upTo])
        case measure => simp [intOf]; omega
    · obtain rfl : k = 64 := by omega
      clear hlt
      go_wp2
      refine bodyPost_ret (v := .agg #[.int .u64 (N (Tn.and a b).v), .int .u64 (N (Tn.and a b).m)]) ?_ rfl ⟨rfl, (by repeat' (first | (with_reducible exact Below.refl _ _) | (with_reducible assumption) | (with_reducible refine Below.alloc ?_ ?_ _) | (with_reducible refine Below.setCell ?_ ?_ _) | (with_reducible refine Below.drew ?_) | (with_reducible refine Below.trans ?_ (Below.mono (by assumption) ?_)) | go_size))⟩
      simp only [results, Try.results36]; simp [*, go_sem, ↓IntWalk.iteOmega, HE.out.1, HE.out.2]; try rfl

end Hk
