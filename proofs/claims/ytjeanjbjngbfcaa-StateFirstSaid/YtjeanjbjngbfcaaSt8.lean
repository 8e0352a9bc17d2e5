/- Package state: Put; old memory is as it was. No condition but those in each statement. -/
import Derived.Test.YtjeanjbjngbfcaaProg
import Derived.Test.YtjeanjbjngbfcaaGp
import Derived.Test.YtjeanjbjngbfcaaSt1
import Derived.Test.YtjeanjbjngbfcaaSt2
import Derived.Test.YtjeanjbjngbfcaaSt3
import Derived.Test.YtjeanjbjngbfcaaSt4
import Derived.Test.YtjeanjbjngbfcaaSt5
import Derived.Test.YtjeanjbjngbfcaaSt6
import Derived.Test.YtjeanjbjngbfcaaSt7
namespace Hk
open Go Go.RowKit Go.Proofs
set_option linter.unusedSimpArgs false
set_option linter.unusedVariables false
set_option maxRecDepth 100000
attribute [go_sem] Tn.eta Sp.eta Fa.eta Vl.eta St.setV_setV
set_option maxHeartbeats 1000000 in
theorem tput_no1_80 (s : St) (o : Int) (f : Fa) (i off : Int) (hv : Vl.right ⟨1, f, i, off⟩ = true) (hs : s.right = true) (hf : St.fitsE o 1 = 80) (w : World) : Calls Try.prog 14 #[.agg (St.cells s), .int .i64 o, .int .i64 1, .agg #[.int .u8 1, .int .u64 (N f.t.v), .int .u64 (N f.t.m), .int .u64 (N f.s.lo), .int .u64 (N f.s.hi), .int .i64 i, .int .i64 off]] w fun e w' => e = .returned (.tuple #[.agg (St.cells St.zero), .int .i64 80]) ∧ Below w.heap.size w w' := by
  have hsz : St.sized 1 = true := rfl
  go_enter Try.func14, Try.ntmps14
  go_wp2_with (first | (go_at_call 30; (with_reducible refine (tsized_c _ _).mono ?_); rintro e w1 ⟨rfl, hb1⟩; obtain ⟨hc1, hf1, hz1⟩ := bcell hb1; have hk1 := bblk hb1; (try simp only [World.size_alloc, World.size_setCell, World.size_drew, setRow_size] at hc1 hf1 hz1 hk1)) | (go_at_call 28; (with_reducible refine (vright_c' _ _ _ _ _ _ _ _).mono ?_); rintro e w1 ⟨rfl, hb1⟩; obtain ⟨hc1, hf1, hz1⟩ := bcell hb1; have hk1 := bblk hb1; (try simp only [World.size_alloc, World.size_setCell, World.size_drew] at hc1 hf1 hz1 hk1)) | (go_at_call 17; (with_reducible refine (tright_c _ _).mono ?_); rintro e w1 ⟨rfl, hb1⟩; obtain ⟨hc1, hf1, hz1⟩ := bcell hb1; have hk1 := bblk hb1; (try simp only [World.size_alloc, World.size_setCell, World.size_drew, setRow_size] at hc1 hf1 hz1 hk1)) | (first | (go_at_call 31; (with_reducible refine (tfits_1 _ _).mono ?_); rintro e w1 ⟨rfl, hb1⟩; obtain ⟨hc1, hf1, hz1⟩ := bcell hb1; have hk1 := bblk hb1; (try simp only [World.size_alloc, World.size_setCell, World.size_drew] at hc1 hf1 hz1 hk1)) | (go_at_call 31; (with_reducible refine (tfits_2 _ _).mono ?_); rintro e w1 ⟨rfl, hb1⟩; obtain ⟨hc1, hf1, hz1⟩ := bcell hb1; have hk1 := bblk hb1; (try simp only [World.size_alloc, World.size_setCell, World.size_drew] at hc1 hf1 hz1 hk1)) | (go_at_call 31; (with_reducible refine (tfits_4 _ _).mono ?_); rintro e w1 ⟨rfl, hb1⟩; obtain ⟨hc1, hf1, hz1⟩ := bcell hb1; have hk1 := bblk hb1; (try simp only [World.size_alloc, World.size_setCell, World.size_drew] at hc1 hf1 hz1 hk1)) | (go_at_call 31; (with_reducible refine (tfits_8 _ _).mono ?_); rintro e w1 ⟨rfl, hb1⟩; obtain ⟨hc1, hf1, hz1⟩ := bcell hb1; have hk1 := bblk hb1; (try simp only [World.size_alloc, World.size_setCell, World.size_drew] at hc1 hf1 hz1 hk1))) | (go_at_call 32; (with_reducible refine (tbits_q _ _ (by omega) (by omega) (by omega) _).mono ?_); rintro e w1 ⟨rfl, rfl⟩))
  refine bodyPost_ret (v := .tuple #[_, _]) ?_ rfl ⟨rfl, (by repeat' (first | (with_reducible exact Below.refl _ _) | (with_reducible assumption) | (with_reducible refine Below.alloc ?_ ?_ _) | (with_reducible refine Below.setCell ?_ ?_ _) | (with_reducible refine below_setRow ?_ ?_) | (with_reducible refine Below.drew ?_) | (with_reducible refine below_dn ?_ _) | (with_reducible refine Below.trans ?_ (Below.mono (by assumption) ?_)) | go_size))⟩
  refine (results_st2 (fn := Try.f14) rfl _ _ _ _ _ rfl rfl ?_ rfl).trans ?_
  · simp [*, go_sem, ↓IntWalk.iteOmega]
  · (simp [*, go_sem, ↓IntWalk.iteOmega] <;> rfl)

set_option maxHeartbeats 1000000 in
theorem tput_no1_130 (s : St) (o : Int) (f : Fa) (i off : Int) (hv : Vl.right ⟨1, f, i, off⟩ = true) (hs : s.right = true) (hf : St.fitsE o 1 = 130) (w : World) : Calls Try.prog 14 #[.agg (St.cells s), .int .i64 o, .int .i64 1, .agg #[.int .u8 1, .int .u64 (N f.t.v), .int .u64 (N f.t.m), .int .u64 (N f.s.lo), .int .u64 (N f.s.hi), .int .i64 i, .int .i64 off]] w fun e w' => e = .returned (.tuple #[.agg (St.cells St.zero), .int .i64 130]) ∧ Below w.heap.size w w' := by
  have hsz : St.sized 1 = true := rfl
  go_enter Try.func14, Try.ntmps14
  go_wp2_with (first | (go_at_call 30; (with_reducible refine (tsized_c _ _).mono ?_); rintro e w1 ⟨rfl, hb1⟩; obtain ⟨hc1, hf1, hz1⟩ := bcell hb1; have hk1 := bblk hb1; (try simp only [World.size_alloc, World.size_setCell, World.size_drew, setRow_size] at hc1 hf1 hz1 hk1)) | (go_at_call 28; (with_reducible refine (vright_c' _ _ _ _ _ _ _ _).mono ?_); rintro e w1 ⟨rfl, hb1⟩; obtain ⟨hc1, hf1, hz1⟩ := bcell hb1; have hk1 := bblk hb1; (try simp only [World.size_alloc, World.size_setCell, World.size_drew] at hc1 hf1 hz1 hk1)) | (go_at_call 17; (with_reducible refine (tright_c _ _).mono ?_); rintro e w1 ⟨rfl, hb1⟩; obtain ⟨hc1, hf1, hz1⟩ := bcell hb1; have hk1 := bblk hb1; (try simp only [World.size_alloc, World.size_setCell, World.size_drew, setRow_size] at hc1 hf1 hz1 hk1)) | (first | (go_at_call 31; (with_reducible refine (tfits_1 _ _).mono ?_); rintro e w1 ⟨rfl, hb1⟩; obtain ⟨hc1, hf1, hz1⟩ := bcell hb1; have hk1 := bblk hb1; (try simp only [World.size_alloc, World.size_setCell, World.size_drew] at hc1 hf1 hz1 hk1)) | (go_at_call 31; (with_reducible refine (tfits_2 _ _).mono ?_); rintro e w1 ⟨rfl, hb1⟩; obtain ⟨hc1, hf1, hz1⟩ := bcell hb1; have hk1 := bblk hb1; (try simp only [World.size_alloc, World.size_setCell, World.size_drew] at hc1 hf1 hz1 hk1)) | (go_at_call 31; (with_reducible refine (tfits_4 _ _).mono ?_); rintro e w1 ⟨rfl, hb1⟩; obtain ⟨hc1, hf1, hz1⟩ := bcell hb1; have hk1 := bblk hb1; (try simp only [World.size_alloc, World.size_setCell, World.size_drew] at hc1 hf1 hz1 hk1)) | (go_at_call 31; (with_reducible refine (tfits_8 _ _).mono ?_); rintro e w1 ⟨rfl, hb1⟩; obtain ⟨hc1, hf1, hz1⟩ := bcell hb1; have hk1 := bblk hb1; (try simp only [World.size_alloc, World.size_setCell, World.size_drew] at hc1 hf1 hz1 hk1))) | (go_at_call 32; (with_reducible refine (tbits_q _ _ (by omega) (by omega) (by omega) _).mono ?_); rintro e w1 ⟨rfl, rfl⟩))
  refine bodyPost_ret (v := .tuple #[_, _]) ?_ rfl ⟨rfl, (by repeat' (first | (with_reducible exact Below.refl _ _) | (with_reducible assumption) | (with_reducible refine Below.alloc ?_ ?_ _) | (with_reducible refine Below.setCell ?_ ?_ _) | (with_reducible refine below_setRow ?_ ?_) | (with_reducible refine Below.drew ?_) | (with_reducible refine below_dn ?_ _) | (with_reducible refine Below.trans ?_ (Below.mono (by assumption) ?_)) | go_size))⟩
  refine (results_st2 (fn := Try.f14) rfl _ _ _ _ _ rfl rfl ?_ rfl).trans ?_
  · simp [*, go_sem, ↓IntWalk.iteOmega]
  · (simp [*, go_sem, ↓IntWalk.iteOmega] <;> rfl)

set_option maxHeartbeats 1000000 in
theorem tput_no2_80 (s : St) (o : Int) (f : Fa) (i off : Int) (hv : Vl.right ⟨1, f, i, off⟩ = true) (hs : s.right = true) (hf : St.fitsE o 2 = 80) (w : World) : Calls Try.prog 14 #[.agg (St.cells s), .int .i64 o, .int .i64 2, .agg #[.int .u8 1, .int .u64 (N f.t.v), .int .u64 (N f.t.m), .int .u64 (N f.s.lo), .int .u64 (N f.s.hi), .int .i64 i, .int .i64 off]] w fun e w' => e = .returned (.tuple #[.agg (St.cells St.zero), .int .i64 80]) ∧ Below w.heap.size w w' := by
  have hsz : St.sized 2 = true := rfl
  go_enter Try.func14, Try.ntmps14
  go_wp2_with (first | (go_at_call 30; (with_reducible refine (tsized_c _ _).mono ?_); rintro e w1 ⟨rfl, hb1⟩; obtain ⟨hc1, hf1, hz1⟩ := bcell hb1; have hk1 := bblk hb1; (try simp only [World.size_alloc, World.size_setCell, World.size_drew, setRow_size] at hc1 hf1 hz1 hk1)) | (go_at_call 28; (with_reducible refine (vright_c' _ _ _ _ _ _ _ _).mono ?_); rintro e w1 ⟨rfl, hb1⟩; obtain ⟨hc1, hf1, hz1⟩ := bcell hb1; have hk1 := bblk hb1; (try simp only [World.size_alloc, World.size_setCell, World.size_drew] at hc1 hf1 hz1 hk1)) | (go_at_call 17; (with_reducible refine (tright_c _ _).mono ?_); rintro e w1 ⟨rfl, hb1⟩; obtain ⟨hc1, hf1, hz1⟩ := bcell hb1; have hk1 := bblk hb1; (try simp only [World.size_alloc, World.size_setCell, World.size_drew, setRow_size] at hc1 hf1 hz1 hk1)) | (first | (go_at_call 31; (with_reducible refine (tfits_1 _ _).mono ?_); rintro e w1 ⟨rfl, hb1⟩; obtain ⟨hc1, hf1, hz1⟩ := bcell hb1; have hk1 := bblk hb1; (try simp only [World.size_alloc, World.size_setCell, World.size_drew] at hc1 hf1 hz1 hk1)) | (go_at_call 31; (with_reducible refine (tfits_2 _ _).mono ?_); rintro e w1 ⟨rfl, hb1⟩; obtain ⟨hc1, hf1, hz1⟩ := bcell hb1; have hk1 := bblk hb1; (try simp only [World.size_alloc, World.size_setCell, World.size_drew] at hc1 hf1 hz1 hk1)) | (go_at_call 31; (with_reducible refine (tfits_4 _ _).mono ?_); rintro e w1 ⟨rfl, hb1⟩; obtain ⟨hc1, hf1, hz1⟩ := bcell hb1; have hk1 := bblk hb1; (try simp only [World.size_alloc, World.size_setCell, World.size_drew] at hc1 hf1 hz1 hk1)) | (go_at_call 31; (with_reducible refine (tfits_8 _ _).mono ?_); rintro e w1 ⟨rfl, hb1⟩; obtain ⟨hc1, hf1, hz1⟩ := bcell hb1; have hk1 := bblk hb1; (try simp only [World.size_alloc, World.size_setCell, World.size_drew] at hc1 hf1 hz1 hk1))) | (go_at_call 32; (with_reducible refine (tbits_q _ _ (by omega) (by omega) (by omega) _).mono ?_); rintro e w1 ⟨rfl, rfl⟩))
  refine bodyPost_ret (v := .tuple #[_, _]) ?_ rfl ⟨rfl, (by repeat' (first | (with_reducible exact Below.refl _ _) | (with_reducible assumption) | (with_reducible refine Below.alloc ?_ ?_ _) | (with_reducible refine Below.setCell ?_ ?_ _) | (with_reducible refine below_setRow ?_ ?_) | (with_reducible refine Below.drew ?_) | (with_reducible refine below_dn ?_ _) | (with_reducible refine Below.trans ?_ (Below.mono (by assumption) ?_)) | go_size))⟩
  refine (results_st2 (fn := Try.f14) rfl _ _ _ _ _ rfl rfl ?_ rfl).trans ?_
  · simp [*, go_sem, ↓IntWalk.iteOmega]
  · (simp [*, go_sem, ↓IntWalk.iteOmega] <;> rfl)

set_option maxHeartbeats 1000000 in
theorem tput_no2_130 (s : St) (o : Int) (f : Fa) (i off : Int) (hv : Vl.right ⟨1, f, i, off⟩ = true) (hs : s.right = true) (hf : St.fitsE o 2 = 130) (w : World) : Calls Try.prog 14 #[.agg (St.cells s), .int .i64 o, .int .i64 2, .agg #[.int .u8 1, .int .u64 (N f.t.v), .int .u64 (N f.t.m), .int .u64 (N f.s.lo), .int .u64 (N f.s.hi), .int .i64 i, .int .i64 off]] w fun e w' => e = .returned (.tuple #[.agg (St.cells St.zero), .int .i64 130]) ∧ Below w.heap.size w w' := by
  have hsz : St.sized 2 = true := rfl
  go_enter Try.func14, Try.ntmps14
  go_wp2_with (first | (go_at_call 30; (with_reducible refine (tsized_c _ _).mono ?_); rintro e w1 ⟨rfl, hb1⟩; obtain ⟨hc1, hf1, hz1⟩ := bcell hb1; have hk1 := bblk hb1; (try simp only [World.size_alloc, World.size_setCell, World.size_drew, setRow_size] at hc1 hf1 hz1 hk1)) | (go_at_call 28; (with_reducible refine (vright_c' _ _ _ _ _ _ _ _).mono ?_); rintro e w1 ⟨rfl, hb1⟩; obtain ⟨hc1, hf1, hz1⟩ := bcell hb1; have hk1 := bblk hb1; (try simp only [World.size_alloc, World.size_setCell, World.size_drew] at hc1 hf1 hz1 hk1)) | (go_at_call 17; (with_reducible refine (tright_c _ _).mono ?_); rintro e w1 ⟨rfl, hb1⟩; obtain ⟨hc1, hf1, hz1⟩ := bcell hb1; have hk1 := bblk hb1; (try simp only [World.size_alloc, World.size_setCell, World.size_drew, setRow_size] at hc1 hf1 hz1 hk1)) | (first | (go_at_call 31; (with_reducible refine (tfits_1 _ _).mono ?_); rintro e w1 ⟨rfl, hb1⟩; obtain ⟨hc1, hf1, hz1⟩ := bcell hb1; have hk1 := bblk hb1; (try simp only [World.size_alloc, World.size_setCell, World.size_drew] at hc1 hf1 hz1 hk1)) | (go_at_call 31; (with_reducible refine (tfits_2 _ _).mono ?_); rintro e w1 ⟨rfl, hb1⟩; obtain ⟨hc1, hf1, hz1⟩ := bcell hb1; have hk1 := bblk hb1; (try simp only [World.size_alloc, World.size_setCell, World.size_drew] at hc1 hf1 hz1 hk1)) | (go_at_call 31; (with_reducible refine (tfits_4 _ _).mono ?_); rintro e w1 ⟨rfl, hb1⟩; obtain ⟨hc1, hf1, hz1⟩ := bcell hb1; have hk1 := bblk hb1; (try simp only [World.size_alloc, World.size_setCell, World.size_drew] at hc1 hf1 hz1 hk1)) | (go_at_call 31; (with_reducible refine (tfits_8 _ _).mono ?_); rintro e w1 ⟨rfl, hb1⟩; obtain ⟨hc1, hf1, hz1⟩ := bcell hb1; have hk1 := bblk hb1; (try simp only [World.size_alloc, World.size_setCell, World.size_drew] at hc1 hf1 hz1 hk1))) | (go_at_call 32; (with_reducible refine (tbits_q _ _ (by omega) (by omega) (by omega) _).mono ?_); rintro e w1 ⟨rfl, rfl⟩))
  refine bodyPost_ret (v := .tuple #[_, _]) ?_ rfl ⟨rfl, (by repeat' (first | (with_reducible exact Below.refl _ _) | (with_reducible assumption) | (with_reducible refine Below.alloc ?_ ?_ _) | (with_reducible refine Below.setCell ?_ ?_ _) | (with_reducible refine below_setRow ?_ ?_) | (with_reducible refine Below.drew ?_) | (with_reducible refine below_dn ?_ _) | (with_reducible refine Below.trans ?_ (Below.mono (by assumption) ?_)) | go_size))⟩
  refine (results_st2 (fn := Try.f14) rfl _ _ _ _ _ rfl rfl ?_ rfl).trans ?_
  · simp [*, go_sem, ↓IntWalk.iteOmega]
  · (simp [*, go_sem, ↓IntWalk.iteOmega] <;> rfl)

set_option maxHeartbeats 1000000 in
theorem tput_no4_80 (s : St) (o : Int) (f : Fa) (i off : Int) (hv : Vl.right ⟨1, f, i, off⟩ = true) (hs : s.right = true) (hf : St.fitsE o 4 = 80) (w : World) : Calls Try.prog 14 #[.agg (St.cells s), .int .i64 o, .int .i64 4, .agg #[.int .u8 1, .int .u64 (N f.t.v), .int .u64 (N f.t.m), .int .u64 (N f.s.lo), .int .u64 (N f.s.hi), .int .i64 i, .int .i64 off]] w fun e w' => e = .returned (.tuple #[.agg (St.cells St.zero), .int .i64 80]) ∧ Below w.heap.size w w' := by
  have hsz : St.sized 4 = true := rfl
  go_enter Try.func14, Try.ntmps14
  go_wp2_with (first | (go_at_call 30; (with_reducible refine (tsized_c _ _).mono ?_); rintro e w1 ⟨rfl, hb1⟩; obtain ⟨hc1, hf1, hz1⟩ := bcell hb1; have hk1 := bblk hb1; (try simp only [World.size_alloc, World.size_setCell, World.size_drew, setRow_size] at hc1 hf1 hz1 hk1)) | (go_at_call 28; (with_reducible refine (vright_c' _ _ _ _ _ _ _ _).mono ?_); rintro e w1 ⟨rfl, hb1⟩; obtain ⟨hc1, hf1, hz1⟩ := bcell hb1; have hk1 := bblk hb1; (try simp only [World.size_alloc, World.size_setCell, World.size_drew] at hc1 hf1 hz1 hk1)) | (go_at_call 17; (with_reducible refine (tright_c _ _).mono ?_); rintro e w1 ⟨rfl, hb1⟩; obtain ⟨hc1, hf1, hz1⟩ := bcell hb1; have hk1 := bblk hb1; (try simp only [World.size_alloc, World.size_setCell, World.size_drew, setRow_size] at hc1 hf1 hz1 hk1)) | (first | (go_at_call 31; (with_reducible refine (tfits_1 _ _).mono ?_); rintro e w1 ⟨rfl, hb1⟩; obtain ⟨hc1, hf1, hz1⟩ := bcell hb1; have hk1 := bblk hb1; (try simp only [World.size_alloc, World.size_setCell, World.size_drew] at hc1 hf1 hz1 hk1)) | (go_at_call 31; (with_reducible refine (tfits_2 _ _).mono ?_); rintro e w1 ⟨rfl, hb1⟩; obtain ⟨hc1, hf1, hz1⟩ := bcell hb1; have hk1 := bblk hb1; (try simp only [World.size_alloc, World.size_setCell, World.size_drew] at hc1 hf1 hz1 hk1)) | (go_at_call 31; (with_reducible refine (tfits_4 _ _).mono ?_); rintro e w1 ⟨rfl, hb1⟩; obtain ⟨hc1, hf1, hz1⟩ := bcell hb1; have hk1 := bblk hb1; (try simp only [World.size_alloc, World.size_setCell, World.size_drew] at hc1 hf1 hz1 hk1)) | (go_at_call 31; (with_reducible refine (tfits_8 _ _).mono ?_); rintro e w1 ⟨rfl, hb1⟩; obtain ⟨hc1, hf1, hz1⟩ := bcell hb1; have hk1 := bblk hb1; (try simp only [World.size_alloc, World.size_setCell, World.size_drew] at hc1 hf1 hz1 hk1))) | (go_at_call 32; (with_reducible refine (tbits_q _ _ (by omega) (by omega) (by omega) _).mono ?_); rintro e w1 ⟨rfl, rfl⟩))
  refine bodyPost_ret (v := .tuple #[_, _]) ?_ rfl ⟨rfl, (by repeat' (first | (with_reducible exact Below.refl _ _) | (with_reducible assumption) | (with_reducible refine Below.alloc ?_ ?_ _) | (with_reducible refine Below.setCell ?_ ?_ _) | (with_reducible refine below_setRow ?_ ?_) | (with_reducible refine Below.drew ?_) | (with_reducible refine below_dn ?_ _) | (with_reducible refine Below.trans ?_ (Below.mono (by assumption) ?_)) | go_size))⟩
  refine (results_st2 (fn := Try.f14) rfl _ _ _ _ _ rfl rfl ?_ rfl).trans ?_
  · simp [*, go_sem, ↓IntWalk.iteOmega]
  · (simp [*, go_sem, ↓IntWalk.iteOmega] <;> rfl)

set_option maxHeartbeats 1000000 in
theorem tput_no4_130 (s : St) (o : Int) (f : Fa) (i off : Int) (hv : Vl.right ⟨1, f, i, off⟩ = true) (hs : s.right = true) (hf : St.fitsE o 4 = 130) (w : World) : Calls Try.prog 14 #[.agg (St.cells s), .int .i64 o, .int .i64 4, .agg #[.int .u8 1, .int .u64 (N f.t.v), .int .u64 (N f.t.m), .int .u64 (N f.s.lo), .int .u64 (N f.s.hi), .int .i64 i, .int .i64 off]] w fun e w' => e = .returned (.tuple #[.agg (St.cells St.zero), .int .i64 130]) ∧ Below w.heap.size w w' := by
  have hsz : St.sized 4 = true := rfl
  go_enter Try.func14, Try.ntmps14
  go_wp2_with (first | (go_at_call 30; (with_reducible refine (tsized_c _ _).mono ?_); rintro e w1 ⟨rfl, hb1⟩; obtain ⟨hc1, hf1, hz1⟩ := bcell hb1; have hk1 := bblk hb1; (try simp only [World.size_alloc, World.size_setCell, World.size_drew, setRow_size] at hc1 hf1 hz1 hk1)) | (go_at_call 28; (with_reducible refine (vright_c' _ _ _ _ _ _ _ _).mono ?_); rintro e w1 ⟨rfl, hb1⟩; obtain ⟨hc1, hf1, hz1⟩ := bcell hb1; have hk1 := bblk hb1; (try simp only [World.size_alloc, World.size_setCell, World.size_drew] at hc1 hf1 hz1 hk1)) | (go_at_call 17; (with_reducible refine (tright_c _ _).mono ?_); rintro e w1 ⟨rfl, hb1⟩; obtain ⟨hc1, hf1, hz1⟩ := bcell hb1; have hk1 := bblk hb1; (try simp only [World.size_alloc, World.size_setCell, World.size_drew, setRow_size] at hc1 hf1 hz1 hk1)) | (first | (go_at_call 31; (with_reducible refine (tfits_1 _ _).mono ?_); rintro e w1 ⟨rfl, hb1⟩; obtain ⟨hc1, hf1, hz1⟩ := bcell hb1; have hk1 := bblk hb1; (try simp only [World.size_alloc, World.size_setCell, World.size_drew] at hc1 hf1 hz1 hk1)) | (go_at_call 31; (with_reducible refine (tfits_2 _ _).mono ?_); rintro e w1 ⟨rfl, hb1⟩; obtain ⟨hc1, hf1, hz1⟩ := bcell hb1; have hk1 := bblk hb1; (try simp only [World.size_alloc, World.size_setCell, World.size_drew] at hc1 hf1 hz1 hk1)) | (go_at_call 31; (with_reducible refine (tfits_4 _ _).mono ?_); rintro e w1 ⟨rfl, hb1⟩; obtain ⟨hc1, hf1, hz1⟩ := bcell hb1; have hk1 := bblk hb1; (try simp only [World.size_alloc, World.size_setCell, World.size_drew] at hc1 hf1 hz1 hk1)) | (go_at_call 31; (with_reducible refine (tfits_8 _ _).mono ?_); rintro e w1 ⟨rfl, hb1⟩; obtain ⟨hc1, hf1, hz1⟩ := bcell hb1; have hk1 := bblk hb1; (try simp only [World.size_alloc, World.size_setCell, World.size_drew] at hc1 hf1 hz1 hk1))) | (go_at_call 32; (with_reducible refine (tbits_q _ _ (by omega) (by omega) (by omega) _).mono ?_); rintro e w1 ⟨rfl, rfl⟩))
  refine bodyPost_ret (v := .tuple #[_, _]) ?_ rfl ⟨rfl, (by repeat' (first | (with_reducible exact Below.refl _ _) | (with_reducible assumption) | (with_reducible refine Below.alloc ?_ ?_ _) | (with_reducible refine Below.setCell ?_ ?_ _) | (with_reducible refine below_setRow ?_ ?_) | (with_reducible refine Below.drew ?_) | (with_reducible refine below_dn ?_ _) | (with_reducible refine Below.trans ?_ (Below.mono (by assumption) ?_)) | go_size))⟩
  refine (results_st2 (fn := Try.f14) rfl _ _ _ _ _ rfl rfl ?_ rfl).trans ?_
  · simp [*, go_sem, ↓IntWalk.iteOmega]
  · (simp [*, go_sem, ↓IntWalk.iteOmega] <;> rfl)

set_option maxHeartbeats 1000000 in
theorem tput_no8_80 (s : St) (o : Int) (v : Vl) (hk : ¬ v.k = 0) (hv : Vl.right v = true) (hs : s.right = true) (hf : St.fitsE o 8 = 80) (w : World) : Calls Try.prog 14 #[.agg (St.cells s), .int .i64 o, .int .i64 8, .agg #[.int .u8 v.k, .int .u64 (N v.f.t.v), .int .u64 (N v.f.t.m), .int .u64 (N v.f.s.lo), .int .u64 (N v.f.s.hi), .int .i64 v.i, .int .i64 v.off]] w fun e w' => e = .returned (.tuple #[.agg (St.cells St.zero), .int .i64 80]) ∧ Below w.heap.size w w' := by
  have hsz : St.sized 8 = true := rfl
  have hb0 : (v.k == 0) = false := by simpa using hk
  go_enter Try.func14, Try.ntmps14
  go_wp2_with (first | (go_at_call 30; (with_reducible refine (tsized_c _ _).mono ?_); rintro e w1 ⟨rfl, hb1⟩; obtain ⟨hc1, hf1, hz1⟩ := bcell hb1; have hk1 := bblk hb1; (try simp only [World.size_alloc, World.size_setCell, World.size_drew, setRow_size] at hc1 hf1 hz1 hk1)) | (go_at_call 28; (with_reducible refine (vright_c' _ _ _ _ _ _ _ _).mono ?_); rintro e w1 ⟨rfl, hb1⟩; obtain ⟨hc1, hf1, hz1⟩ := bcell hb1; have hk1 := bblk hb1; (try simp only [World.size_alloc, World.size_setCell, World.size_drew] at hc1 hf1 hz1 hk1)) | (go_at_call 17; (with_reducible refine (tright_c _ _).mono ?_); rintro e w1 ⟨rfl, hb1⟩; obtain ⟨hc1, hf1, hz1⟩ := bcell hb1; have hk1 := bblk hb1; (try simp only [World.size_alloc, World.size_setCell, World.size_drew, setRow_size] at hc1 hf1 hz1 hk1)) | (first | (go_at_call 31; (with_reducible refine (tfits_1 _ _).mono ?_); rintro e w1 ⟨rfl, hb1⟩; obtain ⟨hc1, hf1, hz1⟩ := bcell hb1; have hk1 := bblk hb1; (try simp only [World.size_alloc, World.size_setCell, World.size_drew] at hc1 hf1 hz1 hk1)) | (go_at_call 31; (with_reducible refine (tfits_2 _ _).mono ?_); rintro e w1 ⟨rfl, hb1⟩; obtain ⟨hc1, hf1, hz1⟩ := bcell hb1; have hk1 := bblk hb1; (try simp only [World.size_alloc, World.size_setCell, World.size_drew] at hc1 hf1 hz1 hk1)) | (go_at_call 31; (with_reducible refine (tfits_4 _ _).mono ?_); rintro e w1 ⟨rfl, hb1⟩; obtain ⟨hc1, hf1, hz1⟩ := bcell hb1; have hk1 := bblk hb1; (try simp only [World.size_alloc, World.size_setCell, World.size_drew] at hc1 hf1 hz1 hk1)) | (go_at_call 31; (with_reducible refine (tfits_8 _ _).mono ?_); rintro e w1 ⟨rfl, hb1⟩; obtain ⟨hc1, hf1, hz1⟩ := bcell hb1; have hk1 := bblk hb1; (try simp only [World.size_alloc, World.size_setCell, World.size_drew] at hc1 hf1 hz1 hk1))) | (go_at_call 32; (with_reducible refine (tbits_q _ _ (by omega) (by omega) (by omega) _).mono ?_); rintro e w1 ⟨rfl, rfl⟩))
  refine bodyPost_ret (v := .tuple #[_, _]) ?_ rfl ⟨rfl, (by repeat' (first | (with_reducible exact Below.refl _ _) | (with_reducible assumption) | (with_reducible refine Below.alloc ?_ ?_ _) | (with_reducible refine Below.setCell ?_ ?_ _) | (with_reducible refine below_setRow ?_ ?_) | (with_reducible refine Below.drew ?_) | (with_reducible refine below_dn ?_ _) | (with_reducible refine Below.trans ?_ (Below.mono (by assumption) ?_)) | go_size))⟩
  refine (results_st2 (fn := Try.f14) rfl _ _ _ _ _ rfl rfl ?_ rfl).trans ?_
  · simp [*, go_sem, ↓IntWalk.iteOmega]
  · (simp [*, go_sem, ↓IntWalk.iteOmega] <;> rfl)

set_option maxHeartbeats 1000000 in
theorem tput_no8_130 (s : St) (o : Int) (v : Vl) (hk : ¬ v.k = 0) (hv : Vl.right v = true) (hs : s.right = true) (hf : St.fitsE o 8 = 130) (w : World) : Calls Try.prog 14 #[.agg (St.cells s), .int .i64 o, .int .i64 8, .agg #[.int .u8 v.k, .int .u64 (N v.f.t.v), .int .u64 (N v.f.t.m), .int .u64 (N v.f.s.lo), .int .u64 (N v.f.s.hi), .int .i64 v.i, .int .i64 v.off]] w fun e w' => e = .returned (.tuple #[.agg (St.cells St.zero), .int .i64 130]) ∧ Below w.heap.size w w' := by
  have hsz : St.sized 8 = true := rfl
  have hb0 : (v.k == 0) = false := by simpa using hk
  go_enter Try.func14, Try.ntmps14
  go_wp2_with (first | (go_at_call 30; (with_reducible refine (tsized_c _ _).mono ?_); rintro e w1 ⟨rfl, hb1⟩; obtain ⟨hc1, hf1, hz1⟩ := bcell hb1; have hk1 := bblk hb1; (try simp only [World.size_alloc, World.size_setCell, World.size_drew, setRow_size] at hc1 hf1 hz1 hk1)) | (go_at_call 28; (with_reducible refine (vright_c' _ _ _ _ _ _ _ _).mono ?_); rintro e w1 ⟨rfl, hb1⟩; obtain ⟨hc1, hf1, hz1⟩ := bcell hb1; have hk1 := bblk hb1; (try simp only [World.size_alloc, World.size_setCell, World.size_drew] at hc1 hf1 hz1 hk1)) | (go_at_call 17; (with_reducible refine (tright_c _ _).mono ?_); rintro e w1 ⟨rfl, hb1⟩; obtain ⟨hc1, hf1, hz1⟩ := bcell hb1; have hk1 := bblk hb1; (try simp only [World.size_alloc, World.size_setCell, World.size_drew, setRow_size] at hc1 hf1 hz1 hk1)) | (first | (go_at_call 31; (with_reducible refine (tfits_1 _ _).mono ?_); rintro e w1 ⟨rfl, hb1⟩; obtain ⟨hc1, hf1, hz1⟩ := bcell hb1; have hk1 := bblk hb1; (try simp only [World.size_alloc, World.size_setCell, World.size_drew] at hc1 hf1 hz1 hk1)) | (go_at_call 31; (with_reducible refine (tfits_2 _ _).mono ?_); rintro e w1 ⟨rfl, hb1⟩; obtain ⟨hc1, hf1, hz1⟩ := bcell hb1; have hk1 := bblk hb1; (try simp only [World.size_alloc, World.size_setCell, World.size_drew] at hc1 hf1 hz1 hk1)) | (go_at_call 31; (with_reducible refine (tfits_4 _ _).mono ?_); rintro e w1 ⟨rfl, hb1⟩; obtain ⟨hc1, hf1, hz1⟩ := bcell hb1; have hk1 := bblk hb1; (try simp only [World.size_alloc, World.size_setCell, World.size_drew] at hc1 hf1 hz1 hk1)) | (go_at_call 31; (with_reducible refine (tfits_8 _ _).mono ?_); rintro e w1 ⟨rfl, hb1⟩; obtain ⟨hc1, hf1, hz1⟩ := bcell hb1; have hk1 := bblk hb1; (try simp only [World.size_alloc, World.size_setCell, World.size_drew] at hc1 hf1 hz1 hk1))) | (go_at_call 32; (with_reducible refine (tbits_q _ _ (by omega) (by omega) (by omega) _).mono ?_); rintro e w1 ⟨rfl, rfl⟩))
  refine bodyPost_ret (v := .tuple #[_, _]) ?_ rfl ⟨rfl, (by repeat' (first | (with_reducible exact Below.refl _ _) | (with_reducible assumption) | (with_reducible refine Below.alloc ?_ ?_ _) | (with_reducible refine Below.setCell ?_ ?_ _) | (with_reducible refine below_setRow ?_ ?_) | (with_reducible refine Below.drew ?_) | (with_reducible refine below_dn ?_ _) | (with_reducible refine Below.trans ?_ (Below.mono (by assumption) ?_)) | go_size))⟩
  refine (results_st2 (fn := Try.f14) rfl _ _ _ _ _ rfl rfl ?_ rfl).trans ?_
  · simp [*, go_sem, ↓IntWalk.iteOmega]
  · (simp [*, go_sem, ↓IntWalk.iteOmega] <;> rfl)

theorem tput_c (s : St) (o n : Int) (v : Vl) (w : World) : Calls Try.prog 14 #[.agg (St.cells s), .int .i64 o, .int .i64 n, .agg #[.int .u8 v.k, .int .u64 (N v.f.t.v), .int .u64 (N v.f.t.m), .int .u64 (N v.f.s.lo), .int .u64 (N v.f.s.hi), .int .i64 v.i, .int .i64 v.off]] w fun e w' => e = .returned (.tuple #[.agg (St.cells (s.put o n v)), .int .i64 (s.putE o n v)]) ∧ Below w.heap.size w w' := by
  cases h : St.sized n
  · exact tput_a s o n v h w
  by_cases hk : v.k = 0
  · obtain ⟨k, f, i, off⟩ := v
    obtain rfl : k = 0 := hk
    cases hv : Vl.right ⟨0, f, i, off⟩
    · exact tput_b s o n _ h hv w
    exact tput_c0 s o n f i off h hv w
  cases hv : Vl.right v
  · exact tput_b s o n v h hv w
  by_cases h8 : n < 8
  · by_cases hk1 : v.k = 1
    · obtain ⟨k, f, i, off⟩ := v
      obtain rfl : k = 1 := hk1
      cases hs : s.right
      · exact tput_f s o n f i off h hv h8 hs w
      have hn : n = 1 ∨ n = 2 ∨ n = 4 := by have := St.sized_is h; omega
      clear h8 h hk
      rcases hn with rfl | rfl | rfl
      · have hA : s.putArg 1 ⟨1, f, i, off⟩ = true := by simp [St.putArg, St.sized, *]
        have E1 := St.putE_ok (o := o) hA
        rcases St.fits_3 o 1 with hf | hf | hf
        · obtain ⟨j, hq, hj, h0, h1⟩ := St.fits_j hf (by decide)
          rw [E1, hf, St.put_ok hA hf hq]
          exact tput_ok1 s o j f i off hv hs h0 h1 hq hj hf w
        · rw [E1, hf, St.put_no hA (by rw [hf]; decide)]; exact tput_no1_80 s o f i off hv hs hf w
        · rw [E1, hf, St.put_no hA (by rw [hf]; decide)]; exact tput_no1_130 s o f i off hv hs hf w
      · have hA : s.putArg 2 ⟨1, f, i, off⟩ = true := by simp [St.putArg, St.sized, *]
        have E1 := St.putE_ok (o := o) hA
        rcases St.fits_3 o 2 with hf | hf | hf
        · obtain ⟨j, hq, hj, h0, h1⟩ := St.fits_j hf (by decide)
          rw [E1, hf, St.put_ok hA hf hq]
          exact tput_ok2 s o j f i off hv hs h0 h1 hq hj hf w
        · rw [E1, hf, St.put_no hA (by rw [hf]; decide)]; exact tput_no2_80 s o f i off hv hs hf w
        · rw [E1, hf, St.put_no hA (by rw [hf]; decide)]; exact tput_no2_130 s o f i off hv hs hf w
      · have hA : s.putArg 4 ⟨1, f, i, off⟩ = true := by simp [St.putArg, St.sized, *]
        have E1 := St.putE_ok (o := o) hA
        rcases St.fits_3 o 4 with hf | hf | hf
        · obtain ⟨j, hq, hj, h0, h1⟩ := St.fits_j hf (by decide)
          rw [E1, hf, St.put_ok hA hf hq]
          exact tput_ok4 s o j f i off hv hs h0 h1 hq hj hf w
        · rw [E1, hf, St.put_no hA (by rw [hf]; decide)]; exact tput_no4_80 s o f i off hv hs hf w
        · rw [E1, hf, St.put_no hA (by rw [hf]; decide)]; exact tput_no4_130 s o f i off hv hs hf w
    · exact tput_d s o n v h hv hk h8 hk1 w
  · cases hs : s.right
    · exact tput_e s o n v h hv hk h8 hs w
    have hn8 : n = 8 := by have := St.sized_is h; omega
    subst hn8
    have hA : s.putArg 8 v = true := by simp [St.putArg, St.sized, *]
    have E1 := St.putE_ok (o := o) hA
    rcases St.fits_3 o 8 with hf | hf | hf
    · obtain ⟨j, hq, hj, h0, h1⟩ := St.fits_j hf (by decide)
      rw [E1, hf, St.put_ok hA hf hq]
      exact tput_ok8 s o j v hk hv hs h0 h1 hq hj hf w
    · rw [E1, hf, St.put_no hA (by rw [hf]; decide)]; exact tput_no8_80 s o v hk hv hs hf w
    · rw [E1, hf, St.put_no hA (by rw [hf]; decide)]; exact tput_no8_130 s o v hk hv hs hf w

end Hk
