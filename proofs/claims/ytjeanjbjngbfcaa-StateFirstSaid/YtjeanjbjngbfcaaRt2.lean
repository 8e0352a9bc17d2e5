/- The reference of states: Set; old memory is as it was. No condition but those in each statement. -/
import Derived.Test.YtjeanjbjngbfcaaProg
import Derived.Test.YtjeanjbjngbfcaaGp
import Derived.Test.YtjeanjbjngbfcaaSt1
import Derived.Test.YtjeanjbjngbfcaaSt2
import Derived.Test.YtjeanjbjngbfcaaSt3
import Derived.Test.YtjeanjbjngbfcaaSt4
import Derived.Test.YtjeanjbjngbfcaaSt5
import Derived.Test.YtjeanjbjngbfcaaVl10
import Derived.Test.YtjeanjbjngbfcaaRt1
namespace Hk
open Go Go.RowKit Go.Proofs
set_option linter.unusedSimpArgs false
set_option linter.unusedVariables false
set_option maxRecDepth 100000
attribute [go_sem] Tn.eta Sp.eta Fa.eta Vl.eta
set_option maxHeartbeats 1000000 in
theorem rtset_a (s : St) (i : Int) (v : Vl) (h : i < 0) (hs : s.right = true) (w : World) : Calls Try.prog 21 #[.agg (St.cells s), .int .i64 i, .agg #[.int .u8 v.k, .int .u64 (N v.f.t.v), .int .u64 (N v.f.t.m), .int .u64 (N v.f.s.lo), .int .u64 (N v.f.s.hi), .int .i64 v.i, .int .i64 v.off]] w fun e w' => e = .returned (.tuple #[.agg (St.cells (s.set i v)), .int .i64 (if s.setOk i v then 0 else 1)]) ∧ Below w.heap.size w w' := by
  have E : s.setOk i v = false := by simp [St.setOk, *]
  have E2 : s.set i v = St.zero := by unfold St.set; rw [E]; rfl
  rw [E2, E]; clear E E2
  simp only [Bool.false_eq_true, if_false]
  go_enter Try.func21, Try.ntmps21
  go_wp2_with (first | (go_at_call 24; (with_reducible refine (rtright_c _ _).mono ?_); rintro e w1 ⟨rfl, hb1⟩; obtain ⟨hc1, hf1, hz1⟩ := bcell hb1; have hk1 := bblk hb1; (try simp only [World.size_alloc, World.size_setCell, World.size_drew, setRow_size] at hc1 hf1 hz1 hk1)) | (go_at_call 13; (with_reducible refine (rvright_c' _ _ _ _ _ _ _ _).mono ?_); rintro e w1 ⟨rfl, hb1⟩; obtain ⟨hc1, hf1, hz1⟩ := bcell hb1; have hk1 := bblk hb1; (try simp only [World.size_alloc, World.size_setCell, World.size_drew] at hc1 hf1 hz1 hk1)))
  refine bodyPost_ret (v := .tuple #[_, _]) ?_ rfl ⟨rfl, (by repeat' (first | (with_reducible exact Below.refl _ _) | (with_reducible assumption) | (with_reducible refine Below.alloc ?_ ?_ _) | (with_reducible refine Below.setCell ?_ ?_ _) | (with_reducible refine below_setRow ?_ ?_) | (with_reducible refine Below.drew ?_) | (with_reducible refine below_dn ?_ _) | (with_reducible refine Below.trans ?_ (Below.mono (by assumption) ?_)) | go_size))⟩
  refine (results_st2 (fn := Try.f21) rfl _ _ _ _ _ rfl rfl ?_ rfl).trans ?_
  · simp [*, go_sem, ↓IntWalk.iteOmega]
  · (simp [*, go_sem, ↓IntWalk.iteOmega] <;> rfl)

set_option maxHeartbeats 1000000 in
theorem rtset_b (s : St) (i : Int) (v : Vl) (h0 : 0 ≤ i) (h : 10 < i) (hs : s.right = true) (w : World) : Calls Try.prog 21 #[.agg (St.cells s), .int .i64 i, .agg #[.int .u8 v.k, .int .u64 (N v.f.t.v), .int .u64 (N v.f.t.m), .int .u64 (N v.f.s.lo), .int .u64 (N v.f.s.hi), .int .i64 v.i, .int .i64 v.off]] w fun e w' => e = .returned (.tuple #[.agg (St.cells (s.set i v)), .int .i64 (if s.setOk i v then 0 else 1)]) ∧ Below w.heap.size w w' := by
  have E : s.setOk i v = false := by simp [St.setOk, *]
  have E2 : s.set i v = St.zero := by unfold St.set; rw [E]; rfl
  rw [E2, E]; clear E E2
  simp only [Bool.false_eq_true, if_false]
  go_enter Try.func21, Try.ntmps21
  go_wp2_with (first | (go_at_call 24; (with_reducible refine (rtright_c _ _).mono ?_); rintro e w1 ⟨rfl, hb1⟩; obtain ⟨hc1, hf1, hz1⟩ := bcell hb1; have hk1 := bblk hb1; (try simp only [World.size_alloc, World.size_setCell, World.size_drew, setRow_size] at hc1 hf1 hz1 hk1)) | (go_at_call 13; (with_reducible refine (rvright_c' _ _ _ _ _ _ _ _).mono ?_); rintro e w1 ⟨rfl, hb1⟩; obtain ⟨hc1, hf1, hz1⟩ := bcell hb1; have hk1 := bblk hb1; (try simp only [World.size_alloc, World.size_setCell, World.size_drew] at hc1 hf1 hz1 hk1)))
  refine bodyPost_ret (v := .tuple #[_, _]) ?_ rfl ⟨rfl, (by repeat' (first | (with_reducible exact Below.refl _ _) | (with_reducible assumption) | (with_reducible refine Below.alloc ?_ ?_ _) | (with_reducible refine Below.setCell ?_ ?_ _) | (with_reducible refine below_setRow ?_ ?_) | (with_reducible refine Below.drew ?_) | (with_reducible refine below_dn ?_ _) | (with_reducible refine Below.trans ?_ (Below.mono (by assumption) ?_)) | go_size))⟩
  refine (results_st2 (fn := Try.f21) rfl _ _ _ _ _ rfl rfl ?_ rfl).trans ?_
  · simp [*, go_sem, ↓IntWalk.iteOmega]
  · (simp [*, go_sem, ↓IntWalk.iteOmega] <;> rfl)

set_option maxHeartbeats 1000000 in
theorem rtset_c2 (s : St) (i : Int) (v : Vl) (h0 : 0 ≤ i) (h1 : i ≤ 10) (hs : s.right = true) (hv : Vl.right v = false) (w : World) : Calls Try.prog 21 #[.agg (St.cells s), .int .i64 i, .agg #[.int .u8 v.k, .int .u64 (N v.f.t.v), .int .u64 (N v.f.t.m), .int .u64 (N v.f.s.lo), .int .u64 (N v.f.s.hi), .int .i64 v.i, .int .i64 v.off]] w fun e w' => e = .returned (.tuple #[.agg (St.cells (s.set i v)), .int .i64 (if s.setOk i v then 0 else 1)]) ∧ Below w.heap.size w w' := by
  have E : s.setOk i v = false := by simp [St.setOk, *]
  have E2 : s.set i v = St.zero := by unfold St.set; rw [E]; rfl
  rw [E2, E]; clear E E2
  simp only [Bool.false_eq_true, if_false]
  go_enter Try.func21, Try.ntmps21
  go_wp2_with (first | (go_at_call 24; (with_reducible refine (rtright_c _ _).mono ?_); rintro e w1 ⟨rfl, hb1⟩; obtain ⟨hc1, hf1, hz1⟩ := bcell hb1; have hk1 := bblk hb1; (try simp only [World.size_alloc, World.size_setCell, World.size_drew, setRow_size] at hc1 hf1 hz1 hk1)) | (go_at_call 13; (with_reducible refine (rvright_c' _ _ _ _ _ _ _ _).mono ?_); rintro e w1 ⟨rfl, hb1⟩; obtain ⟨hc1, hf1, hz1⟩ := bcell hb1; have hk1 := bblk hb1; (try simp only [World.size_alloc, World.size_setCell, World.size_drew] at hc1 hf1 hz1 hk1)))
  refine bodyPost_ret (v := .tuple #[_, _]) ?_ rfl ⟨rfl, (by repeat' (first | (with_reducible exact Below.refl _ _) | (with_reducible assumption) | (with_reducible refine Below.alloc ?_ ?_ _) | (with_reducible refine Below.setCell ?_ ?_ _) | (with_reducible refine below_setRow ?_ ?_) | (with_reducible refine Below.drew ?_) | (with_reducible refine below_dn ?_ _) | (with_reducible refine Below.trans ?_ (Below.mono (by assumption) ?_)) | go_size))⟩
  refine (results_st2 (fn := Try.f21) rfl _ _ _ _ _ rfl rfl ?_ rfl).trans ?_
  · simp [*, go_sem, ↓IntWalk.iteOmega]
  · (simp [*, go_sem, ↓IntWalk.iteOmega] <;> rfl)

set_option maxHeartbeats 1000000 in
theorem rtset_d2 (s : St) (i : Int) (v : Vl) (hs : s.right = false) (w : World) : Calls Try.prog 21 #[.agg (St.cells s), .int .i64 i, .agg #[.int .u8 v.k, .int .u64 (N v.f.t.v), .int .u64 (N v.f.t.m), .int .u64 (N v.f.s.lo), .int .u64 (N v.f.s.hi), .int .i64 v.i, .int .i64 v.off]] w fun e w' => e = .returned (.tuple #[.agg (St.cells (s.set i v)), .int .i64 (if s.setOk i v then 0 else 1)]) ∧ Below w.heap.size w w' := by
  have E : s.setOk i v = false := by simp [St.setOk, *]
  have E2 : s.set i v = St.zero := by unfold St.set; rw [E]; rfl
  rw [E2, E]; clear E E2
  simp only [Bool.false_eq_true, if_false]
  go_enter Try.func21, Try.ntmps21
  go_wp2_with (first | (go_at_call 24; (with_reducible refine (rtright_c _ _).mono ?_); rintro e w1 ⟨rfl, hb1⟩; obtain ⟨hc1, hf1, hz1⟩ := bcell hb1; have hk1 := bblk hb1; (try simp only [World.size_alloc, World.size_setCell, World.size_drew, setRow_size] at hc1 hf1 hz1 hk1)) | (go_at_call 13; (with_reducible refine (rvright_c' _ _ _ _ _ _ _ _).mono ?_); rintro e w1 ⟨rfl, hb1⟩; obtain ⟨hc1, hf1, hz1⟩ := bcell hb1; have hk1 := bblk hb1; (try simp only [World.size_alloc, World.size_setCell, World.size_drew] at hc1 hf1 hz1 hk1)))
  refine bodyPost_ret (v := .tuple #[_, _]) ?_ rfl ⟨rfl, (by repeat' (first | (with_reducible exact Below.refl _ _) | (with_reducible assumption) | (with_reducible refine Below.alloc ?_ ?_ _) | (with_reducible refine Below.setCell ?_ ?_ _) | (with_reducible refine below_setRow ?_ ?_) | (with_reducible refine Below.drew ?_) | (with_reducible refine below_dn ?_ _) | (with_reducible refine Below.trans ?_ (Below.mono (by assumption) ?_)) | go_size))⟩
  refine (results_st2 (fn := Try.f21) rfl _ _ _ _ _ rfl rfl ?_ rfl).trans ?_
  · simp [*, go_sem, ↓IntWalk.iteOmega]
  · (simp [*, go_sem, ↓IntWalk.iteOmega] <;> rfl)

set_option maxHeartbeats 1000000 in
theorem rtset_e (s : St) (k : Nat) (v : Vl) (hk : k < 11) (hv : Vl.right v = true) (hs : s.right = true) (w : World) : Calls Try.prog 21 #[.agg (St.cells s), .int .i64 (k : Int), .agg #[.int .u8 v.k, .int .u64 (N v.f.t.v), .int .u64 (N v.f.t.m), .int .u64 (N v.f.s.lo), .int .u64 (N v.f.s.hi), .int .i64 v.i, .int .i64 v.off]] w fun e w' => e = .returned (.tuple #[.agg (St.cells (s.set (k : Int) v)), .int .i64 (if s.setOk (k : Int) v then 0 else 1)]) ∧ Below w.heap.size w w' := by
  have E : s.setOk (k : Int) v = true := by unfold St.setOk; rw [hv, hs]; simp; omega
  have E2 : s.set (k : Int) v = s.setR k v := by unfold St.set; rw [E]; rfl
  rw [E2, E]; clear E E2
  simp only [if_true]
  go_enter Try.func21, Try.ntmps21
  go_wp2_with (first | (go_at_call 24; (with_reducible refine (rtright_c _ _).mono ?_); rintro e w1 ⟨rfl, hb1⟩; obtain ⟨hc1, hf1, hz1⟩ := bcell hb1; have hk1 := bblk hb1; (try simp only [World.size_alloc, World.size_setCell, World.size_drew, setRow_size] at hc1 hf1 hz1 hk1)) | (go_at_call 13; (with_reducible refine (rvright_c' _ _ _ _ _ _ _ _).mono ?_); rintro e w1 ⟨rfl, hb1⟩; obtain ⟨hc1, hf1, hz1⟩ := bcell hb1; have hk1 := bblk hb1; (try simp only [World.size_alloc, World.size_setCell, World.size_drew] at hc1 hf1 hz1 hk1)))
  refine bodyPost_ret (v := .tuple #[_, _]) ?_ rfl ⟨rfl, (by repeat' (first | (with_reducible exact Below.refl _ _) | (with_reducible assumption) | (with_reducible refine Below.alloc ?_ ?_ _) | (with_reducible refine Below.setCell ?_ ?_ _) | (with_reducible refine below_setRow ?_ ?_) | (with_reducible refine Below.drew ?_) | (with_reducible refine below_dn ?_ _) | (with_reducible refine Below.trans ?_ (Below.mono (by assumption) ?_)) | go_size))⟩
  refine (results_st2 (fn := Try.f21) rfl _ _ _ _ _ rfl rfl ?_ rfl).trans ?_
  · simp [*, go_sem, ↓IntWalk.iteOmega]
  · (simp [*, go_sem, ↓IntWalk.iteOmega] <;> rfl)

theorem rtset_c (s : St) (i : Int) (v : Vl) (w : World) : Calls Try.prog 21 #[.agg (St.cells s), .int .i64 i, .agg #[.int .u8 v.k, .int .u64 (N v.f.t.v), .int .u64 (N v.f.t.m), .int .u64 (N v.f.s.lo), .int .u64 (N v.f.s.hi), .int .i64 v.i, .int .i64 v.off]] w fun e w' => e = .returned (.tuple #[.agg (St.cells (s.set i v)), .int .i64 (if s.setOk i v then 0 else 1)]) ∧ Below w.heap.size w w' := by
  cases hs : s.right
  · exact rtset_d2 s i v hs w
  by_cases h : i < 0
  · exact rtset_a s i v h hs w
  have h0 : 0 ≤ i := by omega
  by_cases h1 : 10 < i
  · exact rtset_b s i v h0 h1 hs w
  have h1 : i ≤ 10 := by omega
  cases hv : Vl.right v
  · exact rtset_c2 s i v h0 h1 hs hv w
  obtain ⟨k, rfl⟩ := Int.eq_ofNat_of_zero_le h0
  exact rtset_e s k v (by omega) hv hs w

end Hk
