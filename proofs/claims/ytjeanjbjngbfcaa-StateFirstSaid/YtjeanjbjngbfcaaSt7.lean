/- Package state: Put; old memory is as it was. No condition but those in each statement. -/
import Derived.Test.YtjeanjbjngbfcaaProg
import Derived.Test.YtjeanjbjngbfcaaGp
import Derived.Test.YtjeanjbjngbfcaaSt1
import Derived.Test.YtjeanjbjngbfcaaSt2
import Derived.Test.YtjeanjbjngbfcaaSt3
import Derived.Test.YtjeanjbjngbfcaaSt4
import Derived.Test.YtjeanjbjngbfcaaSt5
import Derived.Test.YtjeanjbjngbfcaaSt6
import Derived.Test.YtjeanjbjngbfcaaGl
import Derived.Outline
namespace Hk
open Go Go.RowKit Go.Proofs
set_option linter.unusedSimpArgs false
set_option linter.unusedVariables false
set_option maxRecDepth 100000
attribute [go_sem] Tn.eta Sp.eta Fa.eta Vl.eta St.setV_setV
theorem run_load_B8 (ρ : Operand → Value) (op : Oper) (x : Operand) (b o : Nat) (c0 : Value) (ho : op.op = .load 5 x) (hx : ρ x = .pointer (some ⟨b, o, none⟩)) (w : World) (h0 : w.cell? ⟨b, o, none⟩ = some c0) :
    (execOp ρ op).run Try.prog w = .ok (.value (c0)) w := by
  obtain ⟨dst, op, type, pos, after, guard⟩ := op
  simp only at ho
  subst ho
  go_simp
theorem quiet_load_B8 {op : Oper} {a : Act} {C : World → Prop} {K : Act → Prop} {x : Operand} {b o : Nat} {c0 : Value} (ho : op.op = .load 5 x) (hx : a.eval x = .pointer (some ⟨b, o, none⟩))
    (h : ∀ w, C w → w.cell? ⟨b, o, none⟩ = some c0) (hk : K (a.put op.dst (c0))) : op.quiet Try.prog a C K :=
  quiet_mk (v := c0) (fun w hC => by unfold Oper.quietAt; have h0 := h w hC; rw [run_load_B8 _ op x b o c0 ho hx w h0]; exact ⟨rfl, rfl⟩) hk

def PutC (b j : Nat) (x : St) (w : World) (w' : World) : Prop := w'.cell? ⟨b, 77 + j * 8 + 7, none⟩ = some (.int .u8 (N8 (x.s j).p)) ∧ blk w' b = x.cells ∧ (∀ i, w'.frozen? ⟨b, i, none⟩ = false) ∧ Below w.heap.size w w'
theorem PutC_keep {b j : Nat} {x : St} {w : World} (w' w1 : World) (h : PutC b j x w w') (hb : Below w'.heap.size w' w1) : PutC b j x w w1 := by
  obtain ⟨k0, k1, k2, k3⟩ := h
  exact ⟨cell_keep hb k0, blk_keep hb k1 (by rw [x.cells_size]; decide), frozen_keep hb k0 k2, below_next k3 hb⟩

set_option maxHeartbeats 4000000 in
theorem tput_ok1 (s : St) (o : Int) (j : Nat) (f : Fa) (i off : Int) (hv : Vl.right ⟨1, f, i, off⟩ = true) (hs : s.right = true) (h0 : 0 ≤ o) (h1 : o ≤ 512) (hq : o / 8 = (j : Int)) (hj : j < 64) (hf : St.fitsE o 1 = 0) (w : World) : Calls Try.prog 14 #[.agg (St.cells s), .int .i64 o, .int .i64 1, .agg #[.int .u8 1, .int .u64 (N f.t.v), .int .u64 (N f.t.m), .int .u64 (N f.s.lo), .int .u64 (N f.s.hi), .int .i64 i, .int .i64 off]] w fun e w' => e = .returned (.tuple #[.agg (St.cells ((s.setP j ((s.s j).p ||| St.bits o 1)).setV j Vl.zero)), .int .i64 0]) ∧ Below w.heap.size w w' := by
  have hsz : St.sized 1 = true := rfl
  go_enter Try.func14, Try.ntmps14
  go_wp2_with (first | (go_at_call 30; (with_reducible refine (tsized_c _ _).mono ?_); rintro e w1 ⟨rfl, hb1⟩; obtain ⟨hc1, hf1, hz1⟩ := bcell hb1; have hk1 := bblk hb1; (try simp only [World.size_alloc, World.size_setCell, World.size_drew, setRow_size] at hc1 hf1 hz1 hk1)) | (go_at_call 28; (with_reducible refine (vright_c' _ _ _ _ _ _ _ _).mono ?_); rintro e w1 ⟨rfl, hb1⟩; obtain ⟨hc1, hf1, hz1⟩ := bcell hb1; have hk1 := bblk hb1; (try simp only [World.size_alloc, World.size_setCell, World.size_drew] at hc1 hf1 hz1 hk1)) | (go_at_call 17; (with_reducible refine (tright_c _ _).mono ?_); rintro e w1 ⟨rfl, hb1⟩; obtain ⟨hc1, hf1, hz1⟩ := bcell hb1; have hk1 := bblk hb1; (try simp only [World.size_alloc, World.size_setCell, World.size_drew, setRow_size] at hc1 hf1 hz1 hk1)) | (first | (go_at_call 31; (with_reducible refine (tfits_1 _ _).mono ?_); rintro e w1 ⟨rfl, hb1⟩; obtain ⟨hc1, hf1, hz1⟩ := bcell hb1; have hk1 := bblk hb1; (try simp only [World.size_alloc, World.size_setCell, World.size_drew] at hc1 hf1 hz1 hk1)) | (go_at_call 31; (with_reducible refine (tfits_2 _ _).mono ?_); rintro e w1 ⟨rfl, hb1⟩; obtain ⟨hc1, hf1, hz1⟩ := bcell hb1; have hk1 := bblk hb1; (try simp only [World.size_alloc, World.size_setCell, World.size_drew] at hc1 hf1 hz1 hk1)) | (go_at_call 31; (with_reducible refine (tfits_4 _ _).mono ?_); rintro e w1 ⟨rfl, hb1⟩; obtain ⟨hc1, hf1, hz1⟩ := bcell hb1; have hk1 := bblk hb1; (try simp only [World.size_alloc, World.size_setCell, World.size_drew] at hc1 hf1 hz1 hk1)) | (go_at_call 31; (with_reducible refine (tfits_8 _ _).mono ?_); rintro e w1 ⟨rfl, hb1⟩; obtain ⟨hc1, hf1, hz1⟩ := bcell hb1; have hk1 := bblk hb1; (try simp only [World.size_alloc, World.size_setCell, World.size_drew] at hc1 hf1 hz1 hk1))) | (go_at_call 32; (with_reducible refine (tbits_q _ _ (by omega) (by omega) (by omega) _).mono ?_); rintro e w1 ⟨rfl, rfl⟩))
  refine wp_region_class_tail (PutC w.heap.size j s w1) 10 (by kernel_rfl) (by kernel_rfl) ?_ ?_
  · refine ⟨?_, ?_, ?_, (by repeat' (first | (with_reducible exact Below.refl _ _) | (with_reducible assumption) | (with_reducible refine Below.alloc ?_ ?_ _) | (with_reducible refine Below.setCell ?_ ?_ _) | (with_reducible refine Below.drew ?_) | (with_reducible refine below_dn ?_ _) | (with_reducible refine Below.trans ?_ (Below.mono (by assumption) ?_)) | go_size))⟩
    all_goals first | (intro i; simp [*, go_sem, ↓IntWalk.iteOmega]; done) | (simp [*, go_sem, ↓IntWalk.iteOmega]; done)
  intro hN
  (try simp only [List.append])
  simp only [List.take_succ_cons, List.take_zero, List.drop_succ_cons, List.drop_zero]
  repeat (first
    | go_big_quiet_skip
    | (go_big_quiet_want
       first
         | (refine quiet_load_B8 rfl rfl (fun w' hC => by obtain ⟨k0, k1, k2, k3⟩ := hC; first | exact k0) ?_
            simp only [Act.put, List.setIfInBounds_toArray, List.set_cons_succ, List.set_cons_zero]
            go_big_quiet_on)
         | (refine quiet_load_W rfl rfl (fun w' hC => by obtain ⟨k0, k1, k2, k3⟩ := hC; first | exact k0) ?_
            simp only [Act.put, List.setIfInBounds_toArray, List.set_cons_succ, List.set_cons_zero]
            go_big_quiet_on)
         | (go_big_quiet_op
            first
              | go_big_quiet_on
              | (apply Exists.intro
                 refine ⟨fun w' hC => ?_, ?_⟩
                 · (first | (go_at_call 32; (with_reducible refine (tbits_q _ _ (by omega) (by omega) (by omega) _).mono ?_); rintro e w1 ⟨rfl, rfl⟩))
                   (try simp only [])
                   exact ⟨rfl, by first | exact hC | exact PutC_keep _ _ hC hb1⟩
                 go_big_quiet_on))))
  refine wpQuiet_nil ?_
  intro w9 hC
  obtain ⟨k0, k1, k2, k3⟩ := hC
  have z0 := cell_lt k0
  obtain ⟨hc9, hf9, hz9⟩ := bcell k3
  have hk9 := bblk k3
  go_wp2
  refine bodyPost_ret (v := .tuple #[_, _]) ?_ rfl ⟨rfl, (by repeat' (first | (with_reducible exact Below.refl _ _) | (with_reducible assumption) | (with_reducible refine Below.alloc ?_ ?_ _) | (with_reducible refine Below.setCell ?_ ?_ _) | (with_reducible refine below_setRow ?_ ?_) | (with_reducible refine Below.drew ?_) | (with_reducible refine below_dn ?_ _) | (with_reducible refine Below.trans ?_ (Below.mono (by assumption) ?_)) | go_size))⟩
  refine (results_st2 (fn := Try.f14) rfl _ _ _ _ _ rfl rfl ?_ rfl).trans ?_
  · simp [*, go_sem, ↓IntWalk.iteOmega]
  · (simp [*, go_sem, ↓IntWalk.iteOmega] <;> rfl)

set_option maxHeartbeats 4000000 in
theorem tput_ok2 (s : St) (o : Int) (j : Nat) (f : Fa) (i off : Int) (hv : Vl.right ⟨1, f, i, off⟩ = true) (hs : s.right = true) (h0 : 0 ≤ o) (h1 : o ≤ 512) (hq : o / 8 = (j : Int)) (hj : j < 64) (hf : St.fitsE o 2 = 0) (w : World) : Calls Try.prog 14 #[.agg (St.cells s), .int .i64 o, .int .i64 2, .agg #[.int .u8 1, .int .u64 (N f.t.v), .int .u64 (N f.t.m), .int .u64 (N f.s.lo), .int .u64 (N f.s.hi), .int .i64 i, .int .i64 off]] w fun e w' => e = .returned (.tuple #[.agg (St.cells ((s.setP j ((s.s j).p ||| St.bits o 2)).setV j Vl.zero)), .int .i64 0]) ∧ Below w.heap.size w w' := by
  have hsz : St.sized 2 = true := rfl
  go_enter Try.func14, Try.ntmps14
  go_wp2_with (first | (go_at_call 30; (with_reducible refine (tsized_c _ _).mono ?_); rintro e w1 ⟨rfl, hb1⟩; obtain ⟨hc1, hf1, hz1⟩ := bcell hb1; have hk1 := bblk hb1; (try simp only [World.size_alloc, World.size_setCell, World.size_drew, setRow_size] at hc1 hf1 hz1 hk1)) | (go_at_call 28; (with_reducible refine (vright_c' _ _ _ _ _ _ _ _).mono ?_); rintro e w1 ⟨rfl, hb1⟩; obtain ⟨hc1, hf1, hz1⟩ := bcell hb1; have hk1 := bblk hb1; (try simp only [World.size_alloc, World.size_setCell, World.size_drew] at hc1 hf1 hz1 hk1)) | (go_at_call 17; (with_reducible refine (tright_c _ _).mono ?_); rintro e w1 ⟨rfl, hb1⟩; obtain ⟨hc1, hf1, hz1⟩ := bcell hb1; have hk1 := bblk hb1; (try simp only [World.size_alloc, World.size_setCell, World.size_drew, setRow_size] at hc1 hf1 hz1 hk1)) | (first | (go_at_call 31; (with_reducible refine (tfits_1 _ _).mono ?_); rintro e w1 ⟨rfl, hb1⟩; obtain ⟨hc1, hf1, hz1⟩ := bcell hb1; have hk1 := bblk hb1; (try simp only [World.size_alloc, World.size_setCell, World.size_drew] at hc1 hf1 hz1 hk1)) | (go_at_call 31; (with_reducible refine (tfits_2 _ _).mono ?_); rintro e w1 ⟨rfl, hb1⟩; obtain ⟨hc1, hf1, hz1⟩ := bcell hb1; have hk1 := bblk hb1; (try simp only [World.size_alloc, World.size_setCell, World.size_drew] at hc1 hf1 hz1 hk1)) | (go_at_call 31; (with_reducible refine (tfits_4 _ _).mono ?_); rintro e w1 ⟨rfl, hb1⟩; obtain ⟨hc1, hf1, hz1⟩ := bcell hb1; have hk1 := bblk hb1; (try simp only [World.size_alloc, World.size_setCell, World.size_drew] at hc1 hf1 hz1 hk1)) | (go_at_call 31; (with_reducible refine (tfits_8 _ _).mono ?_); rintro e w1 ⟨rfl, hb1⟩; obtain ⟨hc1, hf1, hz1⟩ := bcell hb1; have hk1 := bblk hb1; (try simp only [World.size_alloc, World.size_setCell, World.size_drew] at hc1 hf1 hz1 hk1))) | (go_at_call 32; (with_reducible refine (tbits_q _ _ (by omega) (by omega) (by omega) _).mono ?_); rintro e w1 ⟨rfl, rfl⟩))
  refine wp_region_class_tail (PutC w.heap.size j s w1) 10 (by kernel_rfl) (by kernel_rfl) ?_ ?_
  · refine ⟨?_, ?_, ?_, (by repeat' (first | (with_reducible exact Below.refl _ _) | (with_reducible assumption) | (with_reducible refine Below.alloc ?_ ?_ _) | (with_reducible refine Below.setCell ?_ ?_ _) | (with_reducible refine Below.drew ?_) | (with_reducible refine below_dn ?_ _) | (with_reducible refine Below.trans ?_ (Below.mono (by assumption) ?_)) | go_size))⟩
    all_goals first | (intro i; simp [*, go_sem, ↓IntWalk.iteOmega]; done) | (simp [*, go_sem, ↓IntWalk.iteOmega]; done)
  intro hN
  (try simp only [List.append])
  simp only [List.take_succ_cons, List.take_zero, List.drop_succ_cons, List.drop_zero]
  repeat (first
    | go_big_quiet_skip
    | (go_big_quiet_want
       first
         | (refine quiet_load_B8 rfl rfl (fun w' hC => by obtain ⟨k0, k1, k2, k3⟩ := hC; first | exact k0) ?_
            simp only [Act.put, List.setIfInBounds_toArray, List.set_cons_succ, List.set_cons_zero]
            go_big_quiet_on)
         | (refine quiet_load_W rfl rfl (fun w' hC => by obtain ⟨k0, k1, k2, k3⟩ := hC; first | exact k0) ?_
            simp only [Act.put, List.setIfInBounds_toArray, List.set_cons_succ, List.set_cons_zero]
            go_big_quiet_on)
         | (go_big_quiet_op
            first
              | go_big_quiet_on
              | (apply Exists.intro
                 refine ⟨fun w' hC => ?_, ?_⟩
                 · (first | (go_at_call 32; (with_reducible refine (tbits_q _ _ (by omega) (by omega) (by omega) _).mono ?_); rintro e w1 ⟨rfl, rfl⟩))
                   (try simp only [])
                   exact ⟨rfl, by first | exact hC | exact PutC_keep _ _ hC hb1⟩
                 go_big_quiet_on))))
  refine wpQuiet_nil ?_
  intro w9 hC
  obtain ⟨k0, k1, k2, k3⟩ := hC
  have z0 := cell_lt k0
  obtain ⟨hc9, hf9, hz9⟩ := bcell k3
  have hk9 := bblk k3
  go_wp2
  refine bodyPost_ret (v := .tuple #[_, _]) ?_ rfl ⟨rfl, (by repeat' (first | (with_reducible exact Below.refl _ _) | (with_reducible assumption) | (with_reducible refine Below.alloc ?_ ?_ _) | (with_reducible refine Below.setCell ?_ ?_ _) | (with_reducible refine below_setRow ?_ ?_) | (with_reducible refine Below.drew ?_) | (with_reducible refine below_dn ?_ _) | (with_reducible refine Below.trans ?_ (Below.mono (by assumption) ?_)) | go_size))⟩
  refine (results_st2 (fn := Try.f14) rfl _ _ _ _ _ rfl rfl ?_ rfl).trans ?_
  · simp [*, go_sem, ↓IntWalk.iteOmega]
  · (simp [*, go_sem, ↓IntWalk.iteOmega] <;> rfl)

set_option maxHeartbeats 4000000 in
theorem tput_ok4 (s : St) (o : Int) (j : Nat) (f : Fa) (i off : Int) (hv : Vl.right ⟨1, f, i, off⟩ = true) (hs : s.right = true) (h0 : 0 ≤ o) (h1 : o ≤ 512) (hq : o / 8 = (j : Int)) (hj : j < 64) (hf : St.fitsE o 4 = 0) (w : World) : Calls Try.prog 14 #[.agg (St.cells s), .int .i64 o, .int .i64 4, .agg #[.int .u8 1, .int .u64 (N f.t.v), .int .u64 (N f.t.m), .int .u64 (N f.s.lo), .int .u64 (N f.s.hi), .int .i64 i, .int .i64 off]] w fun e w' => e = .returned (.tuple #[.agg (St.cells ((s.setP j ((s.s j).p ||| St.bits o 4)).setV j Vl.zero)), .int .i64 0]) ∧ Below w.heap.size w w' := by
  have hsz : St.sized 4 = true := rfl
  go_enter Try.func14, Try.ntmps14
  go_wp2_with (first | (go_at_call 30; (with_reducible refine (tsized_c _ _).mono ?_); rintro e w1 ⟨rfl, hb1⟩; obtain ⟨hc1, hf1, hz1⟩ := bcell hb1; have hk1 := bblk hb1; (try simp only [World.size_alloc, World.size_setCell, World.size_drew, setRow_size] at hc1 hf1 hz1 hk1)) | (go_at_call 28; (with_reducible refine (vright_c' _ _ _ _ _ _ _ _).mono ?_); rintro e w1 ⟨rfl, hb1⟩; obtain ⟨hc1, hf1, hz1⟩ := bcell hb1; have hk1 := bblk hb1; (try simp only [World.size_alloc, World.size_setCell, World.size_drew] at hc1 hf1 hz1 hk1)) | (go_at_call 17; (with_reducible refine (tright_c _ _).mono ?_); rintro e w1 ⟨rfl, hb1⟩; obtain ⟨hc1, hf1, hz1⟩ := bcell hb1; have hk1 := bblk hb1; (try simp only [World.size_alloc, World.size_setCell, World.size_drew, setRow_size] at hc1 hf1 hz1 hk1)) | (first | (go_at_call 31; (with_reducible refine (tfits_1 _ _).mono ?_); rintro e w1 ⟨rfl, hb1⟩; obtain ⟨hc1, hf1, hz1⟩ := bcell hb1; have hk1 := bblk hb1; (try simp only [World.size_alloc, World.size_setCell, World.size_drew] at hc1 hf1 hz1 hk1)) | (go_at_call 31; (with_reducible refine (tfits_2 _ _).mono ?_); rintro e w1 ⟨rfl, hb1⟩; obtain ⟨hc1, hf1, hz1⟩ := bcell hb1; have hk1 := bblk hb1; (try simp only [World.size_alloc, World.size_setCell, World.size_drew] at hc1 hf1 hz1 hk1)) | (go_at_call 31; (with_reducible refine (tfits_4 _ _).mono ?_); rintro e w1 ⟨rfl, hb1⟩; obtain ⟨hc1, hf1, hz1⟩ := bcell hb1; have hk1 := bblk hb1; (try simp only [World.size_alloc, World.size_setCell, World.size_drew] at hc1 hf1 hz1 hk1)) | (go_at_call 31; (with_reducible refine (tfits_8 _ _).mono ?_); rintro e w1 ⟨rfl, hb1⟩; obtain ⟨hc1, hf1, hz1⟩ := bcell hb1; have hk1 := bblk hb1; (try simp only [World.size_alloc, World.size_setCell, World.size_drew] at hc1 hf1 hz1 hk1))) | (go_at_call 32; (with_reducible refine (tbits_q _ _ (by omega) (by omega) (by omega) _).mono ?_); rintro e w1 ⟨rfl, rfl⟩))
  refine wp_region_class_tail (PutC w.heap.size j s w1) 10 (by kernel_rfl) (by kernel_rfl) ?_ ?_
  · refine ⟨?_, ?_, ?_, (by repeat' (first | (with_reducible exact Below.refl _ _) | (with_reducible assumption) | (with_reducible refine Below.alloc ?_ ?_ _) | (with_reducible refine Below.setCell ?_ ?_ _) | (with_reducible refine Below.drew ?_) | (with_reducible refine below_dn ?_ _) | (with_reducible refine Below.trans ?_ (Below.mono (by assumption) ?_)) | go_size))⟩
    all_goals first | (intro i; simp [*, go_sem, ↓IntWalk.iteOmega]; done) | (simp [*, go_sem, ↓IntWalk.iteOmega]; done)
  intro hN
  (try simp only [List.append])
  simp only [List.take_succ_cons, List.take_zero, List.drop_succ_cons, List.drop_zero]
  repeat (first
    | go_big_quiet_skip
    | (go_big_quiet_want
       first
         | (refine quiet_load_B8 rfl rfl (fun w' hC => by obtain ⟨k0, k1, k2, k3⟩ := hC; first | exact k0) ?_
            simp only [Act.put, List.setIfInBounds_toArray, List.set_cons_succ, List.set_cons_zero]
            go_big_quiet_on)
         | (refine quiet_load_W rfl rfl (fun w' hC => by obtain ⟨k0, k1, k2, k3⟩ := hC; first | exact k0) ?_
            simp only [Act.put, List.setIfInBounds_toArray, List.set_cons_succ, List.set_cons_zero]
            go_big_quiet_on)
         | (go_big_quiet_op
            first
              | go_big_quiet_on
              | (apply Exists.intro
                 refine ⟨fun w' hC => ?_, ?_⟩
                 · (first | (go_at_call 32; (with_reducible refine (tbits_q _ _ (by omega) (by omega) (by omega) _).mono ?_); rintro e w1 ⟨rfl, rfl⟩))
                   (try simp only [])
                   exact ⟨rfl, by first | exact hC | exact PutC_keep _ _ hC hb1⟩
                 go_big_quiet_on))))
  refine wpQuiet_nil ?_
  intro w9 hC
  obtain ⟨k0, k1, k2, k3⟩ := hC
  have z0 := cell_lt k0
  obtain ⟨hc9, hf9, hz9⟩ := bcell k3
  have hk9 := bblk k3
  go_wp2
  refine bodyPost_ret (v := .tuple #[_, _]) ?_ rfl ⟨rfl, (by repeat' (first | (with_reducible exact Below.refl _ _) | (with_reducible assumption) | (with_reducible refine Below.alloc ?_ ?_ _) | (with_reducible refine Below.setCell ?_ ?_ _) | (with_reducible refine below_setRow ?_ ?_) | (with_reducible refine Below.drew ?_) | (with_reducible refine below_dn ?_ _) | (with_reducible refine Below.trans ?_ (Below.mono (by assumption) ?_)) | go_size))⟩
  refine (results_st2 (fn := Try.f14) rfl _ _ _ _ _ rfl rfl ?_ rfl).trans ?_
  · simp [*, go_sem, ↓IntWalk.iteOmega]
  · (simp [*, go_sem, ↓IntWalk.iteOmega] <;> rfl)

set_option maxHeartbeats 4000000 in
theorem tput_ok8 (s : St) (o : Int) (j : Nat) (v : Vl) (hk : ¬ v.k = 0) (hv : Vl.right v = true) (hs : s.right = true) (h0 : 0 ≤ o) (h1 : o ≤ 512) (hq : o / 8 = (j : Int)) (hj : j < 64) (hf : St.fitsE o 8 = 0) (w : World) : Calls Try.prog 14 #[.agg (St.cells s), .int .i64 o, .int .i64 8, .agg #[.int .u8 v.k, .int .u64 (N v.f.t.v), .int .u64 (N v.f.t.m), .int .u64 (N v.f.s.lo), .int .u64 (N v.f.s.hi), .int .i64 v.i, .int .i64 v.off]] w fun e w' => e = .returned (.tuple #[.agg (St.cells ((s.setP j ((s.s j).p ||| St.bits o 8)).setV j v)), .int .i64 0]) ∧ Below w.heap.size w w' := by
  have hsz : St.sized 8 = true := rfl
  have hb0 : (v.k == 0) = false := by simpa using hk
  go_enter Try.func14, Try.ntmps14
  go_wp2_with (first | (go_at_call 30; (with_reducible refine (tsized_c _ _).mono ?_); rintro e w1 ⟨rfl, hb1⟩; obtain ⟨hc1, hf1, hz1⟩ := bcell hb1; have hk1 := bblk hb1; (try simp only [World.size_alloc, World.size_setCell, World.size_drew, setRow_size] at hc1 hf1 hz1 hk1)) | (go_at_call 28; (with_reducible refine (vright_c' _ _ _ _ _ _ _ _).mono ?_); rintro e w1 ⟨rfl, hb1⟩; obtain ⟨hc1, hf1, hz1⟩ := bcell hb1; have hk1 := bblk hb1; (try simp only [World.size_alloc, World.size_setCell, World.size_drew] at hc1 hf1 hz1 hk1)) | (go_at_call 17; (with_reducible refine (tright_c _ _).mono ?_); rintro e w1 ⟨rfl, hb1⟩; obtain ⟨hc1, hf1, hz1⟩ := bcell hb1; have hk1 := bblk hb1; (try simp only [World.size_alloc, World.size_setCell, World.size_drew, setRow_size] at hc1 hf1 hz1 hk1)) | (first | (go_at_call 31; (with_reducible refine (tfits_1 _ _).mono ?_); rintro e w1 ⟨rfl, hb1⟩; obtain ⟨hc1, hf1, hz1⟩ := bcell hb1; have hk1 := bblk hb1; (try simp only [World.size_alloc, World.size_setCell, World.size_drew] at hc1 hf1 hz1 hk1)) | (go_at_call 31; (with_reducible refine (tfits_2 _ _).mono ?_); rintro e w1 ⟨rfl, hb1⟩; obtain ⟨hc1, hf1, hz1⟩ := bcell hb1; have hk1 := bblk hb1; (try simp only [World.size_alloc, World.size_setCell, World.size_drew] at hc1 hf1 hz1 hk1)) | (go_at_call 31; (with_reducible refine (tfits_4 _ _).mono ?_); rintro e w1 ⟨rfl, hb1⟩; obtain ⟨hc1, hf1, hz1⟩ := bcell hb1; have hk1 := bblk hb1; (try simp only [World.size_alloc, World.size_setCell, World.size_drew] at hc1 hf1 hz1 hk1)) | (go_at_call 31; (with_reducible refine (tfits_8 _ _).mono ?_); rintro e w1 ⟨rfl, hb1⟩; obtain ⟨hc1, hf1, hz1⟩ := bcell hb1; have hk1 := bblk hb1; (try simp only [World.size_alloc, World.size_setCell, World.size_drew] at hc1 hf1 hz1 hk1))) | (go_at_call 32; (with_reducible refine (tbits_q _ _ (by omega) (by omega) (by omega) _).mono ?_); rintro e w1 ⟨rfl, rfl⟩))
  refine wp_region_class_tail (PutC w.heap.size j s w1) 10 (by kernel_rfl) (by kernel_rfl) ?_ ?_
  · refine ⟨?_, ?_, ?_, (by repeat' (first | (with_reducible exact Below.refl _ _) | (with_reducible assumption) | (with_reducible refine Below.alloc ?_ ?_ _) | (with_reducible refine Below.setCell ?_ ?_ _) | (with_reducible refine Below.drew ?_) | (with_reducible refine below_dn ?_ _) | (with_reducible refine Below.trans ?_ (Below.mono (by assumption) ?_)) | go_size))⟩
    all_goals first | (intro i; simp [*, go_sem, ↓IntWalk.iteOmega]; done) | (simp [*, go_sem, ↓IntWalk.iteOmega]; done)
  intro hN
  (try simp only [List.append])
  simp only [List.take_succ_cons, List.take_zero, List.drop_succ_cons, List.drop_zero]
  repeat (first
    | go_big_quiet_skip
    | (go_big_quiet_want
       first
         | (refine quiet_load_B8 rfl rfl (fun w' hC => by obtain ⟨k0, k1, k2, k3⟩ := hC; first | exact k0) ?_
            simp only [Act.put, List.setIfInBounds_toArray, List.set_cons_succ, List.set_cons_zero]
            go_big_quiet_on)
         | (refine quiet_load_W rfl rfl (fun w' hC => by obtain ⟨k0, k1, k2, k3⟩ := hC; first | exact k0) ?_
            simp only [Act.put, List.setIfInBounds_toArray, List.set_cons_succ, List.set_cons_zero]
            go_big_quiet_on)
         | (go_big_quiet_op
            first
              | go_big_quiet_on
              | (apply Exists.intro
                 refine ⟨fun w' hC => ?_, ?_⟩
                 · (first | (go_at_call 32; (with_reducible refine (tbits_q _ _ (by omega) (by omega) (by omega) _).mono ?_); rintro e w1 ⟨rfl, rfl⟩))
                   (try simp only [])
                   exact ⟨rfl, by first | exact hC | exact PutC_keep _ _ hC hb1⟩
                 go_big_quiet_on))))
  refine wpQuiet_nil ?_
  intro w9 hC
  obtain ⟨k0, k1, k2, k3⟩ := hC
  have z0 := cell_lt k0
  obtain ⟨hc9, hf9, hz9⟩ := bcell k3
  have hk9 := bblk k3
  go_wp2
  refine bodyPost_ret (v := .tuple #[_, _]) ?_ rfl ⟨rfl, (by repeat' (first | (with_reducible exact Below.refl _ _) | (with_reducible assumption) | (with_reducible refine Below.alloc ?_ ?_ _) | (with_reducible refine Below.setCell ?_ ?_ _) | (with_reducible refine below_setRow ?_ ?_) | (with_reducible refine Below.drew ?_) | (with_reducible refine below_dn ?_ _) | (with_reducible refine Below.trans ?_ (Below.mono (by assumption) ?_)) | go_size))⟩
  refine (results_st2 (fn := Try.f14) rfl _ _ _ _ _ rfl rfl ?_ rfl).trans ?_
  · simp [*, go_sem, ↓IntWalk.iteOmega]
  · (simp [*, go_sem, ↓IntWalk.iteOmega] <;> rfl)

end Hk
