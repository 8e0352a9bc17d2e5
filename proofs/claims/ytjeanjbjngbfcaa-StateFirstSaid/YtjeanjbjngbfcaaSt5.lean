/- Package state: Set; old memory is as it was. No condition but those in each statement. -/
import Derived.Test.YtjeanjbjngbfcaaProg
import Derived.Test.YtjeanjbjngbfcaaGp
import Derived.Test.YtjeanjbjngbfcaaSt1
import Derived.Test.YtjeanjbjngbfcaaSt2
import Derived.Test.YtjeanjbjngbfcaaSt3
import Derived.Test.YtjeanjbjngbfcaaSt4
namespace Hk
open Go Go.RowKit Go.Proofs
set_option linter.unusedSimpArgs false
set_option linter.unusedVariables false
set_option maxRecDepth 100000
attribute [go_sem] Tn.eta Sp.eta Fa.eta Vl.eta
theorem results_st2 {fn : Func} {p q : Tmp} (h : fn.results = #[.cell p 38, .tmp q]) (tmps : Array Value) (w : World) (g : Nat) (c : Array Value) (v : Value) (hp : tmps.getD p undef = .pointer (some ⟨g, 0, none⟩)) (hq : tmps.getD q undef = v) (hs : (blk w g).size = 589) (hc : blk w g = c) :
    (results fn tmps).run Try.prog w = .ok (.tuple #[.agg c, v]) w := by
  have hp' : tmps[p]?.getD undef = .pointer (some ⟨g, 0, none⟩) := by simpa using hp
  have hq' : tmps[q]?.getD undef = v := by simpa using hq
  subst hc
  simp [results, h, hp', hq', asAddr, bl_st_var w g hs]

set_option maxHeartbeats 1000000 in
theorem tset_a (s : St) (i : Int) (v : Vl) (h : i < 0) (w : World) : Calls Try.prog 12 #[.agg (St.cells s), .int .i64 i, .agg #[.int .u8 v.k, .int .u64 (N v.f.t.v), .int .u64 (N v.f.t.m), .int .u64 (N v.f.s.lo), .int .u64 (N v.f.s.hi), .int .i64 v.i, .int .i64 v.off]] w fun e w' => e = .returned (.tuple #[.agg (St.cells (s.set i v)), .int .i64 (if s.setOk i v then 0 else 1)]) ∧ Below w.heap.size w w' := by
  have E : s.setOk i v = false := by simp [St.setOk, *]
  have E2 : s.set i v = St.zero := by unfold St.set; rw [E]; rfl
  rw [E2, E]; clear E E2
  simp only [Bool.false_eq_true, if_false]
  go_enter Try.func12, Try.ntmps12
  go_wp2_with (first | (go_at_call 17; (with_reducible refine (tright_c _ _).mono ?_); rintro e w1 ⟨rfl, hb1⟩; obtain ⟨hc1, hf1, hz1⟩ := bcell hb1; have hk1 := bblk hb1; (try simp only [World.size_alloc, World.size_setCell, World.size_drew, setRow_size] at hc1 hf1 hz1 hk1)) | (go_at_call 28; (with_reducible refine (vright_c' _ _ _ _ _ _ _ _).mono ?_); rintro e w1 ⟨rfl, hb1⟩; obtain ⟨hc1, hf1, hz1⟩ := bcell hb1; have hk1 := bblk hb1; (try simp only [World.size_alloc, World.size_setCell, World.size_drew] at hc1 hf1 hz1 hk1)))
  refine bodyPost_ret (v := .tuple #[_, _]) ?_ rfl ⟨rfl, (by repeat' (first | (with_reducible exact Below.refl _ _) | (with_reducible assumption) | (with_reducible refine Below.alloc ?_ ?_ _) | (with_reducible refine Below.setCell ?_ ?_ _) | (with_reducible refine below_setRow ?_ ?_) | (with_reducible refine Below.drew ?_) | (with_reducible refine below_dn ?_ _) | (with_reducible refine Below.trans ?_ (Below.mono (by assumption) ?_)) | go_size))⟩
  refine (results_st2 (fn := Try.f12) rfl _ _ _ _ _ rfl rfl ?_ rfl).trans ?_
  · simp [*, go_sem, ↓IntWalk.iteOmega]
  · (simp [*, go_sem, ↓IntWalk.iteOmega] <;> rfl)

set_option maxHeartbeats 1000000 in
theorem tset_b (s : St) (i : Int) (v : Vl) (h0 : 0 ≤ i) (h : 10 < i) (w : World) : Calls Try.prog 12 #[.agg (St.cells s), .int .i64 i, .agg #[.int .u8 v.k, .int .u64 (N v.f.t.v), .int .u64 (N v.f.t.m), .int .u64 (N v.f.s.lo), .int .u64 (N v.f.s.hi), .int .i64 v.i, .int .i64 v.off]] w fun e w' => e = .returned (.tuple #[.agg (St.cells (s.set i v)), .int .i64 (if s.setOk i v then 0 else 1)]) ∧ Below w.heap.size w w' := by
  have E : s.setOk i v = false := by simp [St.setOk, *]
  have E2 : s.set i v = St.zero := by unfold St.set; rw [E]; rfl
  rw [E2, E]; clear E E2
  simp only [Bool.false_eq_true, if_false]
  go_enter Try.func12, Try.ntmps12
  go_wp2_with (first | (go_at_call 17; (with_reducible refine (tright_c _ _).mono ?_); rintro e w1 ⟨rfl, hb1⟩; obtain ⟨hc1, hf1, hz1⟩ := bcell hb1; have hk1 := bblk hb1; (try simp only [World.size_alloc, World.size_setCell, World.size_drew, setRow_size] at hc1 hf1 hz1 hk1)) | (go_at_call 28; (with_reducible refine (vright_c' _ _ _ _ _ _ _ _).mono ?_); rintro e w1 ⟨rfl, hb1⟩; obtain ⟨hc1, hf1, hz1⟩ := bcell hb1; have hk1 := bblk hb1; (try simp only [World.size_alloc, World.size_setCell, World.size_drew] at hc1 hf1 hz1 hk1)))
  refine bodyPost_ret (v := .tuple #[_, _]) ?_ rfl ⟨rfl, (by repeat' (first | (with_reducible exact Below.refl _ _) | (with_reducible assumption) | (with_reducible refine Below.alloc ?_ ?_ _) | (with_reducible refine Below.setCell ?_ ?_ _) | (with_reducible refine below_setRow ?_ ?_) | (with_reducible refine Below.drew ?_) | (with_reducible refine below_dn ?_ _) | (with_reducible refine Below.trans ?_ (Below.mono (by assumption) ?_)) | go_size))⟩
  refine (results_st2 (fn := Try.f12) rfl _ _ _ _ _ rfl rfl ?_ rfl).trans ?_
  · simp [*, go_sem, ↓IntWalk.iteOmega]
  · (simp [*, go_sem, ↓IntWalk.iteOmega] <;> rfl)

set_option maxHeartbeats 1000000 in
theorem tset_c0 (s : St) (i : Int) (v : Vl) (h0 : 0 ≤ i) (h1 : i ≤ 10) (hv : Vl.right v = false) (w : World) : Calls Try.prog 12 #[.agg (St.cells s), .int .i64 i, .agg #[.int .u8 v.k, .int .u64 (N v.f.t.v), .int .u64 (N v.f.t.m), .int .u64 (N v.f.s.lo), .int .u64 (N v.f.s.hi), .int .i64 v.i, .int .i64 v.off]] w fun e w' => e = .returned (.tuple #[.agg (St.cells (s.set i v)), .int .i64 (if s.setOk i v then 0 else 1)]) ∧ Below w.heap.size w w' := by
  have E : s.setOk i v = false := by simp [St.setOk, *]
  have E2 : s.set i v = St.zero := by unfold St.set; rw [E]; rfl
  rw [E2, E]; clear E E2
  simp only [Bool.false_eq_true, if_false]
  go_enter Try.func12, Try.ntmps12
  go_wp2_with (first | (go_at_call 17; (with_reducible refine (tright_c _ _).mono ?_); rintro e w1 ⟨rfl, hb1⟩; obtain ⟨hc1, hf1, hz1⟩ := bcell hb1; have hk1 := bblk hb1; (try simp only [World.size_alloc, World.size_setCell, World.size_drew, setRow_size] at hc1 hf1 hz1 hk1)) | (go_at_call 28; (with_reducible refine (vright_c' _ _ _ _ _ _ _ _).mono ?_); rintro e w1 ⟨rfl, hb1⟩; obtain ⟨hc1, hf1, hz1⟩ := bcell hb1; have hk1 := bblk hb1; (try simp only [World.size_alloc, World.size_setCell, World.size_drew] at hc1 hf1 hz1 hk1)))
  refine bodyPost_ret (v := .tuple #[_, _]) ?_ rfl ⟨rfl, (by repeat' (first | (with_reducible exact Below.refl _ _) | (with_reducible assumption) | (with_reducible refine Below.alloc ?_ ?_ _) | (with_reducible refine Below.setCell ?_ ?_ _) | (with_reducible refine below_setRow ?_ ?_) | (with_reducible refine Below.drew ?_) | (with_reducible refine below_dn ?_ _) | (with_reducible refine Below.trans ?_ (Below.mono (by assumption) ?_)) | go_size))⟩
  refine (results_st2 (fn := Try.f12) rfl _ _ _ _ _ rfl rfl ?_ rfl).trans ?_
  · simp [*, go_sem, ↓IntWalk.iteOmega]
  · (simp [*, go_sem, ↓IntWalk.iteOmega] <;> rfl)

set_option maxHeartbeats 1000000 in
theorem tset_d (s : St) (i : Int) (v : Vl) (h0 : 0 ≤ i) (h1 : i ≤ 10) (hv : Vl.right v = true) (hs : s.right = false) (w : World) : Calls Try.prog 12 #[.agg (St.cells s), .int .i64 i, .agg #[.int .u8 v.k, .int .u64 (N v.f.t.v), .int .u64 (N v.f.t.m), .int .u64 (N v.f.s.lo), .int .u64 (N v.f.s.hi), .int .i64 v.i, .int .i64 v.off]] w fun e w' => e = .returned (.tuple #[.agg (St.cells (s.set i v)), .int .i64 (if s.setOk i v then 0 else 1)]) ∧ Below w.heap.size w w' := by
  have E : s.setOk i v = false := by simp [St.setOk, *]
  have E2 : s.set i v = St.zero := by unfold St.set; rw [E]; rfl
  rw [E2, E]; clear E E2
  simp only [Bool.false_eq_true, if_false]
  go_enter Try.func12, Try.ntmps12
  go_wp2_with (first | (go_at_call 17; (with_reducible refine (tright_c _ _).mono ?_); rintro e w1 ⟨rfl, hb1⟩; obtain ⟨hc1, hf1, hz1⟩ := bcell hb1; have hk1 := bblk hb1; (try simp only [World.size_alloc, World.size_setCell, World.size_drew, setRow_size] at hc1 hf1 hz1 hk1)) | (go_at_call 28; (with_reducible refine (vright_c' _ _ _ _ _ _ _ _).mono ?_); rintro e w1 ⟨rfl, hb1⟩; obtain ⟨hc1, hf1, hz1⟩ := bcell hb1; have hk1 := bblk hb1; (try simp only [World.size_alloc, World.size_setCell, World.size_drew] at hc1 hf1 hz1 hk1)))
  refine bodyPost_ret (v := .tuple #[_, _]) ?_ rfl ⟨rfl, (by repeat' (first | (with_reducible exact Below.refl _ _) | (with_reducible assumption) | (with_reducible refine Below.alloc ?_ ?_ _) | (with_reducible refine Below.setCell ?_ ?_ _) | (with_reducible refine below_setRow ?_ ?_) | (with_reducible refine Below.drew ?_) | (with_reducible refine below_dn ?_ _) | (with_reducible refine Below.trans ?_ (Below.mono (by assumption) ?_)) | go_size))⟩
  refine (results_st2 (fn := Try.f12) rfl _ _ _ _ _ rfl rfl ?_ rfl).trans ?_
  · simp [*, go_sem, ↓IntWalk.iteOmega]
  · (simp [*, go_sem, ↓IntWalk.iteOmega] <;> rfl)

set_option maxHeartbeats 1000000 in
theorem tset_e (s : St) (k : Nat) (v : Vl) (hk : k < 11) (hv : Vl.right v = true) (hs : s.right = true) (w : World) : Calls Try.prog 12 #[.agg (St.cells s), .int .i64 (k : Int), .agg #[.int .u8 v.k, .int .u64 (N v.f.t.v), .int .u64 (N v.f.t.m), .int .u64 (N v.f.s.lo), .int .u64 (N v.f.s.hi), .int .i64 v.i, .int .i64 v.off]] w fun e w' => e = .returned (.tuple #[.agg (St.cells (s.set (k : Int) v)), .int .i64 (if s.setOk (k : Int) v then 0 else 1)]) ∧ Below w.heap.size w w' := by
  have E : s.setOk (k : Int) v = true := by unfold St.setOk; rw [hv, hs]; simp; omega
  have E2 : s.set (k : Int) v = s.setR k v := by unfold St.set; rw [E]; rfl
  rw [E2, E]; clear E E2
  simp only [if_true]
  go_enter Try.func12, Try.ntmps12
  go_wp2_with (first | (go_at_call 17; (with_reducible refine (tright_c _ _).mono ?_); rintro e w1 ⟨rfl, hb1⟩; obtain ⟨hc1, hf1, hz1⟩ := bcell hb1; have hk1 := bblk hb1; (try simp only [World.size_alloc, World.size_setCell, World.size_drew, setRow_size] at hc1 hf1 hz1 hk1)) | (go_at_call 28; (with_reducible refine (vright_c' _ _ _ _ _ _ _ _).mono ?_); rintro e w1 ⟨rfl, hb1⟩; obtain ⟨hc1, hf1, hz1⟩ := bcell hb1; have hk1 := bblk hb1; (try simp only [World.size_alloc, World.size_setCell, World.size_drew] at hc1 hf1 hz1 hk1)))
  refine bodyPost_ret (v := .tuple #[_, _]) ?_ rfl ⟨rfl, (by repeat' (first | (with_reducible exact Below.refl _ _) | (with_reducible assumption) | (with_reducible refine Below.alloc ?_ ?_ _) | (with_reducible refine Below.setCell ?_ ?_ _) | (with_reducible refine below_setRow ?_ ?_) | (with_reducible refine Below.drew ?_) | (with_reducible refine below_dn ?_ _) | (with_reducible refine Below.trans ?_ (Below.mono (by assumption) ?_)) | go_size))⟩
  refine (results_st2 (fn := Try.f12) rfl _ _ _ _ _ rfl rfl ?_ rfl).trans ?_
  · simp [*, go_sem, ↓IntWalk.iteOmega]
  · (simp [*, go_sem, ↓IntWalk.iteOmega] <;> rfl)

theorem tset_c (s : St) (i : Int) (v : Vl) (w : World) : Calls Try.prog 12 #[.agg (St.cells s), .int .i64 i, .agg #[.int .u8 v.k, .int .u64 (N v.f.t.v), .int .u64 (N v.f.t.m), .int .u64 (N v.f.s.lo), .int .u64 (N v.f.s.hi), .int .i64 v.i, .int .i64 v.off]] w fun e w' => e = .returned (.tuple #[.agg (St.cells (s.set i v)), .int .i64 (if s.setOk i v then 0 else 1)]) ∧ Below w.heap.size w w' := by
  by_cases h : i < 0
  · exact tset_a s i v h w
  have h0 : 0 ≤ i := by omega
  by_cases h1 : 10 < i
  · exact tset_b s i v h0 h1 w
  have h1 : i ≤ 10 := by omega
  cases hv : Vl.right v
  · exact tset_c0 s i v h0 h1 hv w
  cases hs : s.right
  · exact tset_d s i v h0 h1 hv hs w
  obtain ⟨k, rfl⟩ := Int.eq_ofNat_of_zero_le h0
  exact tset_e s k v (by omega) hv hs w

end Hk
