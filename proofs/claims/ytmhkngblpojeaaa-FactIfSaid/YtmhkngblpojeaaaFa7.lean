/- Package fact: makes, where the first number is not known: the ways that do not hang on the second one; old memory is as it was. No condition but those in each statement. -/
import Derived.Test.YtmhkngblpojeaaaProg
import Derived.Test.YtmhkngblpojeaaaGp
import Derived.Test.YtmhkngblpojeaaaGf
import Derived.Test.YtmhkngblpojeaaaFa5
import Derived.Test.YtmhkngblpojeaaaFa6
import Derived.Test.YtmhkngblpojeaaaGa
import Derived.Test.YtmhkngblpojeaaaSp3
import Derived.Test.YtmhkngblpojeaaaGl
namespace Hk
open Go Go.RowKit Go.Proofs
set_option linter.unusedSimpArgs false
set_option linter.unusedVariables false
set_option maxRecDepth 100000
attribute [go_sem] Tn.eta Alu.val_some Alu.err_some Alu.val_none Alu.err_none
@[go_sem] theorem field_t (a b c d : Value) (w : World) : Sem.run Try.prog (Instr.field 29 (.agg #[a, b, c, d]) 0) w = .ok (.agg #[a, b]) w := by kernel_rfl
@[go_sem] theorem field_s (a b c d : Value) (w : World) : Sem.run Try.prog (Instr.field 29 (.agg #[a, b, c, d]) 1) w = .ok (.agg #[c, d]) w := by kernel_rfl

def MkC (x y z : Fa) (t : Tn) (w wT : World) (w' : World) : Prop := w'.cell? ⟨w.heap.size, 0, none⟩ = some (.int .u64 (N x.t.v)) ∧ w'.cell? ⟨w.heap.size, 1, none⟩ = some (.int .u64 (N x.t.m)) ∧ w'.cell? ⟨w.heap.size, 2, none⟩ = some (.int .u64 (N x.s.lo)) ∧ w'.cell? ⟨w.heap.size, 3, none⟩ = some (.int .u64 (N x.s.hi)) ∧ w'.cell? ⟨w.heap.size + 1, 0, none⟩ = some (.int .u64 (N y.t.v)) ∧ w'.cell? ⟨w.heap.size + 1, 1, none⟩ = some (.int .u64 (N y.t.m)) ∧ w'.cell? ⟨w.heap.size + 1, 2, none⟩ = some (.int .u64 (N y.s.lo)) ∧ w'.cell? ⟨w.heap.size + 1, 3, none⟩ = some (.int .u64 (N y.s.hi)) ∧ w'.cell? ⟨w.heap.size + 1 + 1, 0, none⟩ = some (.int .u64 (N z.t.v)) ∧ w'.cell? ⟨w.heap.size + 1 + 1, 1, none⟩ = some (.int .u64 (N z.t.m)) ∧ w'.cell? ⟨w.heap.size + 1 + 1, 2, none⟩ = some (.int .u64 (N z.s.lo)) ∧ w'.cell? ⟨w.heap.size + 1 + 1, 3, none⟩ = some (.int .u64 (N z.s.hi)) ∧ w'.cell? ⟨wT.heap.size, 0, none⟩ = some (.int .u64 (N t.v)) ∧ w'.cell? ⟨wT.heap.size, 1, none⟩ = some (.int .u64 (N t.m)) ∧ (∀ i, w'.frozen? ⟨w.heap.size + 1 + 1, i, none⟩ = false) ∧ Below w.heap.size w w'
theorem MkC_keep {x y z : Fa} {t : Tn} {w wT : World} (w' w1 : World) (h : MkC x y z t w wT w') (hb : Below w'.heap.size w' w1) : MkC x y z t w wT w1 := by
  obtain ⟨k0, k1, k2, k3, k4, k5, k6, k7, k8, k9, k10, k11, k12, k13, k14, k15⟩ := h
  exact ⟨cell_keep hb k0, cell_keep hb k1, cell_keep hb k2, cell_keep hb k3, cell_keep hb k4, cell_keep hb k5, cell_keep hb k6, cell_keep hb k7, cell_keep hb k8, cell_keep hb k9, cell_keep hb k10, cell_keep hb k11, cell_keep hb k12, cell_keep hb k13, frozen_keep hb k8 k14, below_next k15 hb⟩

theorem mk_both (op off : Int) (wd : Bool) (x y : Fa) (p q : BitVec 64) (hx : Fa.known x = some p) (hy : Fa.known y = some q) (w : World) : Calls Try.prog 42 #[.int .u8 op, .bool wd, .int .i16 off, .agg #[.int .u64 (N x.t.v), .int .u64 (N x.t.m), .int .u64 (N x.s.lo), .int .u64 (N x.s.hi)], .agg #[.int .u64 (N y.t.v), .int .u64 (N y.t.m), .int .u64 (N y.s.lo), .int .u64 (N y.s.hi)]] w fun e w' => e = .returned (.agg #[.int .u64 (N (Fa.makes op wd off x y).t.v), .int .u64 (N (Fa.makes op wd off x y).t.m), .int .u64 (N (Fa.makes op wd off x y).s.lo), .int .u64 (N (Fa.makes op wd off x y).s.hi)]) ∧ Below w.heap.size w w' := by
  rw [Fa.makes_both hx hy]
  go_enter Try.func42, Try.ntmps42
  go_wp2_with (first | (go_at_call 20; (with_reducible refine (fknown_c' _ _ _ _ _).mono ?_); rintro e w1 ⟨rfl, hb1⟩; obtain ⟨hc1, hf1, hz1⟩ := bcell hb1; (try simp only [World.size_alloc, World.size_setCell, World.size_drew] at hc1 hf1 hz1)) | (go_at_call 85; (with_reducible refine (found_off _ _ (by assumption) _).mono ?_); rintro e w1 ⟨rfl, rfl⟩) | (go_at_call 41; (with_reducible refine (ado_c _ _ _ _ _ _).mono ?_); rintro e w1 ⟨rfl, rfl⟩) | (go_at_call 17; (with_reducible refine (fof_c' _ _).mono ?_); rintro e w1 ⟨rfl, hb1⟩; obtain ⟨hc1, hf1, hz1⟩ := bcell hb1; (try simp only [World.size_alloc, World.size_setCell, World.size_drew] at hc1 hf1 hz1)) | (go_at_call 25; (with_reducible refine (fany_c _).mono ?_); rintro e w1 ⟨rfl, hb1⟩; obtain ⟨hc1, hf1, hz1⟩ := bcell hb1; (try simp only [World.size_alloc, World.size_setCell, World.size_drew] at hc1 hf1 hz1)))
  refine bodyPost_ret ?_ rfl ⟨rfl, (by repeat' (first | (with_reducible exact Below.refl _ _) | (with_reducible assumption) | (with_reducible refine Below.alloc ?_ ?_ _) | (with_reducible refine Below.setCell ?_ ?_ _) | (with_reducible refine Below.drew ?_) | (with_reducible refine below_dn ?_ _) | (with_reducible refine Below.trans ?_ (Below.mono (by assumption) ?_)) | go_size))⟩
  simp only [results, Try.results42]; simp [*, go_sem, ↓IntWalk.iteOmega]; try (first | rfl | exact ⟨rfl, rfl⟩)

theorem mk_off_a (op off : Int) (wd : Bool) (x y : Fa) (hx : Fa.known x = none) (h : ¬ off = 0) (w : World) : Calls Try.prog 42 #[.int .u8 op, .bool wd, .int .i16 off, .agg #[.int .u64 (N x.t.v), .int .u64 (N x.t.m), .int .u64 (N x.s.lo), .int .u64 (N x.s.hi)], .agg #[.int .u64 (N y.t.v), .int .u64 (N y.t.m), .int .u64 (N y.s.lo), .int .u64 (N y.s.hi)]] w fun e w' => e = .returned (.agg #[.int .u64 (N (Fa.makes op wd off x y).t.v), .int .u64 (N (Fa.makes op wd off x y).t.m), .int .u64 (N (Fa.makes op wd off x y).s.lo), .int .u64 (N (Fa.makes op wd off x y).s.hi)]) ∧ Below w.heap.size w w' := by
  rw [Fa.mk_off (.inl hx) h]
  go_enter Try.func42, Try.ntmps42
  go_wp2_with (first | (go_at_call 20; (with_reducible refine (fknown_c' _ _ _ _ _).mono ?_); rintro e w1 ⟨rfl, hb1⟩; obtain ⟨hc1, hf1, hz1⟩ := bcell hb1; (try simp only [World.size_alloc, World.size_setCell, World.size_drew] at hc1 hf1 hz1)) | (go_at_call 85; (with_reducible refine (found_off _ _ (by assumption) _).mono ?_); rintro e w1 ⟨rfl, rfl⟩) | (go_at_call 41; (with_reducible refine (ado_c _ _ _ _ _ _).mono ?_); rintro e w1 ⟨rfl, rfl⟩) | (go_at_call 17; (with_reducible refine (fof_c' _ _).mono ?_); rintro e w1 ⟨rfl, hb1⟩; obtain ⟨hc1, hf1, hz1⟩ := bcell hb1; (try simp only [World.size_alloc, World.size_setCell, World.size_drew] at hc1 hf1 hz1)) | (go_at_call 25; (with_reducible refine (fany_c _).mono ?_); rintro e w1 ⟨rfl, hb1⟩; obtain ⟨hc1, hf1, hz1⟩ := bcell hb1; (try simp only [World.size_alloc, World.size_setCell, World.size_drew] at hc1 hf1 hz1)))
  refine bodyPost_ret ?_ rfl ⟨rfl, (by repeat' (first | (with_reducible exact Below.refl _ _) | (with_reducible assumption) | (with_reducible refine Below.alloc ?_ ?_ _) | (with_reducible refine Below.setCell ?_ ?_ _) | (with_reducible refine Below.drew ?_) | (with_reducible refine below_dn ?_ _) | (with_reducible refine Below.trans ?_ (Below.mono (by assumption) ?_)) | go_size))⟩
  simp only [results, Try.results42]; simp [*, go_sem, ↓IntWalk.iteOmega]; try (first | rfl | exact ⟨rfl, rfl⟩)

theorem mk_mov_a (wd : Bool) (x y : Fa) (hx : Fa.known x = none) (w : World) : Calls Try.prog 42 #[.int .u8 176, .bool wd, .int .i16 0, .agg #[.int .u64 (N x.t.v), .int .u64 (N x.t.m), .int .u64 (N x.s.lo), .int .u64 (N x.s.hi)], .agg #[.int .u64 (N y.t.v), .int .u64 (N y.t.m), .int .u64 (N y.s.lo), .int .u64 (N y.s.hi)]] w fun e w' => e = .returned (.agg #[.int .u64 (N (Fa.makes 176 wd 0 x y).t.v), .int .u64 (N (Fa.makes 176 wd 0 x y).t.m), .int .u64 (N (Fa.makes 176 wd 0 x y).s.lo), .int .u64 (N (Fa.makes 176 wd 0 x y).s.hi)]) ∧ Below w.heap.size w w' := by
  rw [Fa.mk_mov (.inl hx)]
  go_enter Try.func42, Try.ntmps42
  go_wp2_with (first | (go_at_call 20; (with_reducible refine (fknown_c' _ _ _ _ _).mono ?_); rintro e w1 ⟨rfl, hb1⟩; obtain ⟨hc1, hf1, hz1⟩ := bcell hb1; (try simp only [World.size_alloc, World.size_setCell, World.size_drew] at hc1 hf1 hz1)) | (go_at_call 85; (with_reducible refine (found_176 _).mono ?_); rintro e w1 ⟨rfl, rfl⟩) | (go_at_call 41; (with_reducible refine (ado_c _ _ _ _ _ _).mono ?_); rintro e w1 ⟨rfl, rfl⟩) | (go_at_call 17; (with_reducible refine (fof_c' _ _).mono ?_); rintro e w1 ⟨rfl, hb1⟩; obtain ⟨hc1, hf1, hz1⟩ := bcell hb1; (try simp only [World.size_alloc, World.size_setCell, World.size_drew] at hc1 hf1 hz1)) | (go_at_call 25; (with_reducible refine (fany_c _).mono ?_); rintro e w1 ⟨rfl, hb1⟩; obtain ⟨hc1, hf1, hz1⟩ := bcell hb1; (try simp only [World.size_alloc, World.size_setCell, World.size_drew] at hc1 hf1 hz1)))
  refine bodyPost_ret ?_ rfl ⟨rfl, (by repeat' (first | (with_reducible exact Below.refl _ _) | (with_reducible assumption) | (with_reducible refine Below.alloc ?_ ?_ _) | (with_reducible refine Below.setCell ?_ ?_ _) | (with_reducible refine Below.drew ?_) | (with_reducible refine below_dn ?_ _) | (with_reducible refine Below.trans ?_ (Below.mono (by assumption) ?_)) | go_size))⟩
  simp only [results, Try.results42]; simp [*, go_sem, ↓IntWalk.iteOmega]; try (first | rfl | exact ⟨rfl, rfl⟩)

theorem mk_else_a (op : Int) (wd : Bool) (x y : Fa) (hx : Fa.known x = none) (n176 : ¬ op = 176) (n0 : ¬ op = 0) (n16 : ¬ op = 16) (n32 : ¬ op = 32) (n80 : ¬ op = 80) (n64 : ¬ op = 64) (n160 : ¬ op = 160) (n96 : ¬ op = 96) (n112 : ¬ op = 112) (n48 : ¬ op = 48) (n144 : ¬ op = 144) (w : World) : Calls Try.prog 42 #[.int .u8 op, .bool wd, .int .i16 0, .agg #[.int .u64 (N x.t.v), .int .u64 (N x.t.m), .int .u64 (N x.s.lo), .int .u64 (N x.s.hi)], .agg #[.int .u64 (N y.t.v), .int .u64 (N y.t.m), .int .u64 (N y.s.lo), .int .u64 (N y.s.hi)]] w fun e w' => e = .returned (.agg #[.int .u64 (N (Fa.makes op wd 0 x y).t.v), .int .u64 (N (Fa.makes op wd 0 x y).t.m), .int .u64 (N (Fa.makes op wd 0 x y).s.lo), .int .u64 (N (Fa.makes op wd 0 x y).s.hi)]) ∧ Below w.heap.size w w' := by
  rw [Fa.mk_else (.inl hx) n176 n0 n16 n32 n80 n64 n160 n96 n112 n48 n144]
  go_enter Try.func42, Try.ntmps42
  go_wp2_with (first | (go_at_call 20; (with_reducible refine (fknown_c' _ _ _ _ _).mono ?_); rintro e w1 ⟨rfl, hb1⟩; obtain ⟨hc1, hf1, hz1⟩ := bcell hb1; (try simp only [World.size_alloc, World.size_setCell, World.size_drew] at hc1 hf1 hz1)) | (go_at_call 85; (with_reducible refine (found_else _ (by assumption) (by assumption) (by assumption) (by assumption) (by assumption) (by assumption) (by assumption) (by assumption) (by assumption) (by assumption) (by assumption) _).mono ?_); rintro e w1 ⟨rfl, rfl⟩) | (go_at_call 41; (with_reducible refine (ado_c _ _ _ _ _ _).mono ?_); rintro e w1 ⟨rfl, rfl⟩) | (go_at_call 17; (with_reducible refine (fof_c' _ _).mono ?_); rintro e w1 ⟨rfl, hb1⟩; obtain ⟨hc1, hf1, hz1⟩ := bcell hb1; (try simp only [World.size_alloc, World.size_setCell, World.size_drew] at hc1 hf1 hz1)) | (go_at_call 25; (with_reducible refine (fany_c _).mono ?_); rintro e w1 ⟨rfl, hb1⟩; obtain ⟨hc1, hf1, hz1⟩ := bcell hb1; (try simp only [World.size_alloc, World.size_setCell, World.size_drew] at hc1 hf1 hz1)))
  refine bodyPost_ret ?_ rfl ⟨rfl, (by repeat' (first | (with_reducible exact Below.refl _ _) | (with_reducible assumption) | (with_reducible refine Below.alloc ?_ ?_ _) | (with_reducible refine Below.setCell ?_ ?_ _) | (with_reducible refine Below.drew ?_) | (with_reducible refine below_dn ?_ _) | (with_reducible refine Below.trans ?_ (Below.mono (by assumption) ?_)) | go_size))⟩
  simp only [results, Try.results42]; simp [*, go_sem, ↓IntWalk.iteOmega]; try (first | rfl | exact ⟨rfl, rfl⟩)

set_option maxHeartbeats 1000000 in
theorem mk_add_a0 (wd : Bool) (x y : Fa) (t : Tn) (hx : Fa.known x = none) (hd : Tn.do_ 0 x.t (y).t = none) (w : World) : Calls Try.prog 42 #[.int .u8 0, .bool wd, .int .i16 0, .agg #[.int .u64 (N x.t.v), .int .u64 (N x.t.m), .int .u64 (N x.s.lo), .int .u64 (N x.s.hi)], .agg #[.int .u64 (N y.t.v), .int .u64 (N y.t.m), .int .u64 (N y.s.lo), .int .u64 (N y.s.hi)]] w fun e w' => e = .returned (.agg #[.int .u64 (N (Fa.makes 0 wd 0 x y).t.v), .int .u64 (N (Fa.makes 0 wd 0 x y).t.m), .int .u64 (N (Fa.makes 0 wd 0 x y).s.lo), .int .u64 (N (Fa.makes 0 wd 0 x y).s.hi)]) ∧ Below w.heap.size w w' := by
  rw [Fa.mk_add (.inl hx), Fa.plain_none hd]
  go_enter Try.func42, Try.ntmps42
  go_wp2_with (first | (go_at_call 20; (with_reducible refine (fknown_c' _ _ _ _ _).mono ?_); rintro e w1 ⟨rfl, hb1⟩; obtain ⟨hc1, hf1, hz1⟩ := bcell hb1; (try simp only [World.size_alloc, World.size_setCell, World.size_drew] at hc1 hf1 hz1)) | (go_at_call 85; (with_reducible refine (found_0 _).mono ?_); rintro e w1 ⟨rfl, rfl⟩) | (go_at_call 41; (with_reducible refine (ado_c _ _ _ _ _ _).mono ?_); rintro e w1 ⟨rfl, rfl⟩) | (go_at_call 17; (with_reducible refine (fof_c' _ _).mono ?_); rintro e w1 ⟨rfl, hb1⟩; obtain ⟨hc1, hf1, hz1⟩ := bcell hb1; (try simp only [World.size_alloc, World.size_setCell, World.size_drew] at hc1 hf1 hz1)) | (go_at_call 25; (with_reducible refine (fany_c _).mono ?_); rintro e w1 ⟨rfl, hb1⟩; obtain ⟨hc1, hf1, hz1⟩ := bcell hb1; (try simp only [World.size_alloc, World.size_setCell, World.size_drew] at hc1 hf1 hz1)))
  go_wp2_with fail
  refine (do_c' _ _ _ _ _ _).mono ?_
  rintro e wT ⟨rfl, hbwT⟩
  obtain ⟨hcwT, hfwT, hzwT⟩ := bcell hbwT
  (try simp only [World.size_alloc, World.size_setCell, World.size_drew] at hcwT hfwT hzwT)
  go_wp2_with (first | (go_at_call 25; (with_reducible refine (fany_c _).mono ?_); rintro e w1 ⟨rfl, hb1⟩; obtain ⟨hc1, hf1, hz1⟩ := bcell hb1; (try simp only [World.size_alloc, World.size_setCell, World.size_drew] at hc1 hf1 hz1)))
  refine wp_region_class_tail (MkC x y Fa.zero Fa.any.t w wT) 8 (by kernel_rfl) (by kernel_rfl) ?_ ?_
  · refine ⟨?_, ?_, ?_, ?_, ?_, ?_, ?_, ?_, ?_, ?_, ?_, ?_, ?_, ?_, ?_, (by repeat' (first | (with_reducible exact Below.refl _ _) | (with_reducible assumption) | (with_reducible refine Below.alloc ?_ ?_ _) | (with_reducible refine Below.setCell ?_ ?_ _) | (with_reducible refine Below.drew ?_) | (with_reducible refine below_dn ?_ _) | (with_reducible refine Below.trans ?_ (Below.mono (by assumption) ?_)) | go_size))⟩
    all_goals first | (intro i; simp [*, go_sem, ↓IntWalk.iteOmega]; done) | (simp [*, go_sem, ↓IntWalk.iteOmega]; done)
  clear hbwT hcwT hfwT hzwT
  intro hN
  (try simp only [List.append])
  simp only [List.take_succ_cons, List.take_zero, List.drop_succ_cons, List.drop_zero]
  repeat (first
    | go_big_quiet_skip
    | (go_big_quiet_want
       first
         | (refine quiet_load_Tn rfl rfl (fun w' hC => by obtain ⟨k0, k1, k2, k3, k4, k5, k6, k7, k8, k9, k10, k11, k12, k13, k14, k15⟩ := hC; first | exact ⟨k0, k1⟩ | exact ⟨k1, k2⟩ | exact ⟨k2, k3⟩ | exact ⟨k3, k4⟩ | exact ⟨k4, k5⟩ | exact ⟨k5, k6⟩ | exact ⟨k6, k7⟩ | exact ⟨k7, k8⟩ | exact ⟨k8, k9⟩ | exact ⟨k9, k10⟩ | exact ⟨k10, k11⟩ | exact ⟨k11, k12⟩ | exact ⟨k12, k13⟩) ?_
            simp only [Act.put, List.setIfInBounds_toArray, List.set_cons_succ, List.set_cons_zero]
            go_big_quiet_on)
         | (refine quiet_load_Sp rfl rfl (fun w' hC => by obtain ⟨k0, k1, k2, k3, k4, k5, k6, k7, k8, k9, k10, k11, k12, k13, k14, k15⟩ := hC; first | exact ⟨k0, k1⟩ | exact ⟨k1, k2⟩ | exact ⟨k2, k3⟩ | exact ⟨k3, k4⟩ | exact ⟨k4, k5⟩ | exact ⟨k5, k6⟩ | exact ⟨k6, k7⟩ | exact ⟨k7, k8⟩ | exact ⟨k8, k9⟩ | exact ⟨k9, k10⟩ | exact ⟨k10, k11⟩ | exact ⟨k11, k12⟩ | exact ⟨k12, k13⟩) ?_
            simp only [Act.put, List.setIfInBounds_toArray, List.set_cons_succ, List.set_cons_zero]
            go_big_quiet_on)
         | (refine quiet_load_Fa rfl rfl (fun w' hC => by obtain ⟨k0, k1, k2, k3, k4, k5, k6, k7, k8, k9, k10, k11, k12, k13, k14, k15⟩ := hC; first | exact ⟨k0, k1, k2, k3⟩ | exact ⟨k1, k2, k3, k4⟩ | exact ⟨k2, k3, k4, k5⟩ | exact ⟨k3, k4, k5, k6⟩ | exact ⟨k4, k5, k6, k7⟩ | exact ⟨k5, k6, k7, k8⟩ | exact ⟨k6, k7, k8, k9⟩ | exact ⟨k7, k8, k9, k10⟩ | exact ⟨k8, k9, k10, k11⟩ | exact ⟨k9, k10, k11, k12⟩ | exact ⟨k10, k11, k12, k13⟩) ?_
            simp only [Act.put, List.setIfInBounds_toArray, List.set_cons_succ, List.set_cons_zero]
            go_big_quiet_on)
         | (refine quiet_load_W rfl rfl (fun w' hC => by obtain ⟨k0, k1, k2, k3, k4, k5, k6, k7, k8, k9, k10, k11, k12, k13, k14, k15⟩ := hC; first | exact k0 | exact k1 | exact k2 | exact k3 | exact k4 | exact k5 | exact k6 | exact k7 | exact k8 | exact k9 | exact k10 | exact k11 | exact k12 | exact k13) ?_
            simp only [Act.put, List.setIfInBounds_toArray, List.set_cons_succ, List.set_cons_zero]
            go_big_quiet_on)
         | (go_big_quiet_op
            first
              | go_big_quiet_on
              | (apply Exists.intro
                 refine ⟨fun w' hC => ?_, ?_⟩
                 · (first | (go_at_call 87; (with_reducible refine (sdo_c' _ _ _ _ _ _).mono ?_); rintro e w1 ⟨rfl, hb1⟩) | (go_at_call 67; (with_reducible refine (fsettled_c' _ _ _ _ _).mono ?_); rintro e w1 ⟨rfl, hb1⟩))
                   (try simp only [Tn.eta, Sp.eta, Fa.eta])
                   exact ⟨rfl, by first | exact hC | exact MkC_keep _ _ hC hb1⟩
                 go_big_quiet_on))))
  refine wpQuiet_nil ?_
  intro w9 hC
  obtain ⟨k0, k1, k2, k3, k4, k5, k6, k7, k8, k9, k10, k11, k12, k13, k14, k15⟩ := hC
  have z0 := cell_lt k0
  have z4 := cell_lt k4
  have z8 := cell_lt k8
  have z12 := cell_lt k12
  go_wp2
  refine bodyPost_ret ?_ rfl ⟨rfl, (by repeat' (first | (with_reducible exact Below.refl _ _) | (with_reducible assumption) | (with_reducible refine Below.alloc ?_ ?_ _) | (with_reducible refine Below.setCell ?_ ?_ _) | (with_reducible refine Below.drew ?_) | (with_reducible refine below_dn ?_ _) | (with_reducible refine Below.trans ?_ (Below.mono (by assumption) ?_)) | go_size))⟩
  simp only [results, Try.results42]; simp [*, go_sem, ↓IntWalk.iteOmega]; try (first | rfl | exact ⟨rfl, rfl⟩)

set_option maxHeartbeats 1000000 in
theorem mk_add_a1 (wd : Bool) (x y : Fa) (t : Tn) (hx : Fa.known x = none) (hd : Tn.do_ 0 x.t (y).t = some t) (w : World) : Calls Try.prog 42 #[.int .u8 0, .bool wd, .int .i16 0, .agg #[.int .u64 (N x.t.v), .int .u64 (N x.t.m), .int .u64 (N x.s.lo), .int .u64 (N x.s.hi)], .agg #[.int .u64 (N y.t.v), .int .u64 (N y.t.m), .int .u64 (N y.s.lo), .int .u64 (N y.s.hi)]] w fun e w' => e = .returned (.agg #[.int .u64 (N (Fa.makes 0 wd 0 x y).t.v), .int .u64 (N (Fa.makes 0 wd 0 x y).t.m), .int .u64 (N (Fa.makes 0 wd 0 x y).s.lo), .int .u64 (N (Fa.makes 0 wd 0 x y).s.hi)]) ∧ Below w.heap.size w w' := by
  rw [Fa.mk_add (.inl hx), Fa.plain_some hd]
  go_enter Try.func42, Try.ntmps42
  go_wp2_with (first | (go_at_call 20; (with_reducible refine (fknown_c' _ _ _ _ _).mono ?_); rintro e w1 ⟨rfl, hb1⟩; obtain ⟨hc1, hf1, hz1⟩ := bcell hb1; (try simp only [World.size_alloc, World.size_setCell, World.size_drew] at hc1 hf1 hz1)) | (go_at_call 85; (with_reducible refine (found_0 _).mono ?_); rintro e w1 ⟨rfl, rfl⟩) | (go_at_call 41; (with_reducible refine (ado_c _ _ _ _ _ _).mono ?_); rintro e w1 ⟨rfl, rfl⟩) | (go_at_call 17; (with_reducible refine (fof_c' _ _).mono ?_); rintro e w1 ⟨rfl, hb1⟩; obtain ⟨hc1, hf1, hz1⟩ := bcell hb1; (try simp only [World.size_alloc, World.size_setCell, World.size_drew] at hc1 hf1 hz1)) | (go_at_call 25; (with_reducible refine (fany_c _).mono ?_); rintro e w1 ⟨rfl, hb1⟩; obtain ⟨hc1, hf1, hz1⟩ := bcell hb1; (try simp only [World.size_alloc, World.size_setCell, World.size_drew] at hc1 hf1 hz1)))
  go_wp2_with fail
  refine (do_c' _ _ _ _ _ _).mono ?_
  rintro e wT ⟨rfl, hbwT⟩
  obtain ⟨hcwT, hfwT, hzwT⟩ := bcell hbwT
  (try simp only [World.size_alloc, World.size_setCell, World.size_drew] at hcwT hfwT hzwT)
  go_wp2_with (first | (go_at_call 25; (with_reducible refine (fany_c _).mono ?_); rintro e w1 ⟨rfl, hb1⟩; obtain ⟨hc1, hf1, hz1⟩ := bcell hb1; (try simp only [World.size_alloc, World.size_setCell, World.size_drew] at hc1 hf1 hz1)))
  refine wp_region_class_tail (MkC x y Fa.zero t w wT) 8 (by kernel_rfl) (by kernel_rfl) ?_ ?_
  · refine ⟨?_, ?_, ?_, ?_, ?_, ?_, ?_, ?_, ?_, ?_, ?_, ?_, ?_, ?_, ?_, (by repeat' (first | (with_reducible exact Below.refl _ _) | (with_reducible assumption) | (with_reducible refine Below.alloc ?_ ?_ _) | (with_reducible refine Below.setCell ?_ ?_ _) | (with_reducible refine Below.drew ?_) | (with_reducible refine below_dn ?_ _) | (with_reducible refine Below.trans ?_ (Below.mono (by assumption) ?_)) | go_size))⟩
    all_goals first | (intro i; simp [*, go_sem, ↓IntWalk.iteOmega]; done) | (simp [*, go_sem, ↓IntWalk.iteOmega]; done)
  clear hbwT hcwT hfwT hzwT
  intro hN
  (try simp only [List.append])
  simp only [List.take_succ_cons, List.take_zero, List.drop_succ_cons, List.drop_zero]
  repeat (first
    | go_big_quiet_skip
    | (go_big_quiet_want
       first
         | (refine quiet_load_Tn rfl rfl (fun w' hC => by obtain ⟨k0, k1, k2, k3, k4, k5, k6, k7, k8, k9, k10, k11, k12, k13, k14, k15⟩ := hC; first | exact ⟨k0, k1⟩ | exact ⟨k1, k2⟩ | exact ⟨k2, k3⟩ | exact ⟨k3, k4⟩ | exact ⟨k4, k5⟩ | exact ⟨k5, k6⟩ | exact ⟨k6, k7⟩ | exact ⟨k7, k8⟩ | exact ⟨k8, k9⟩ | exact ⟨k9, k10⟩ | exact ⟨k10, k11⟩ | exact ⟨k11, k12⟩ | exact ⟨k12, k13⟩) ?_
            simp only [Act.put, List.setIfInBounds_toArray, List.set_cons_succ, List.set_cons_zero]
            go_big_quiet_on)
         | (refine quiet_load_Sp rfl rfl (fun w' hC => by obtain ⟨k0, k1, k2, k3, k4, k5, k6, k7, k8, k9, k10, k11, k12, k13, k14, k15⟩ := hC; first | exact ⟨k0, k1⟩ | exact ⟨k1, k2⟩ | exact ⟨k2, k3⟩ | exact ⟨k3, k4⟩ | exact ⟨k4, k5⟩ | exact ⟨k5, k6⟩ | exact ⟨k6, k7⟩ | exact ⟨k7, k8⟩ | exact ⟨k8, k9⟩ | exact ⟨k9, k10⟩ | exact ⟨k10, k11⟩ | exact ⟨k11, k12⟩ | exact ⟨k12, k13⟩) ?_
            simp only [Act.put, List.setIfInBounds_toArray, List.set_cons_succ, List.set_cons_zero]
            go_big_quiet_on)
         | (refine quiet_load_Fa rfl rfl (fun w' hC => by obtain ⟨k0, k1, k2, k3, k4, k5, k6, k7, k8, k9, k10, k11, k12, k13, k14, k15⟩ := hC; first | exact ⟨k0, k1, k2, k3⟩ | exact ⟨k1, k2, k3, k4⟩ | exact ⟨k2, k3, k4, k5⟩ | exact ⟨k3, k4, k5, k6⟩ | exact ⟨k4, k5, k6, k7⟩ | exact ⟨k5, k6, k7, k8⟩ | exact ⟨k6, k7, k8, k9⟩ | exact ⟨k7, k8, k9, k10⟩ | exact ⟨k8, k9, k10, k11⟩ | exact ⟨k9, k10, k11, k12⟩ | exact ⟨k10, k11, k12, k13⟩) ?_
            simp only [Act.put, List.setIfInBounds_toArray, List.set_cons_succ, List.set_cons_zero]
            go_big_quiet_on)
         | (refine quiet_load_W rfl rfl (fun w' hC => by obtain ⟨k0, k1, k2, k3, k4, k5, k6, k7, k8, k9, k10, k11, k12, k13, k14, k15⟩ := hC; first | exact k0 | exact k1 | exact k2 | exact k3 | exact k4 | exact k5 | exact k6 | exact k7 | exact k8 | exact k9 | exact k10 | exact k11 | exact k12 | exact k13) ?_
            simp only [Act.put, List.setIfInBounds_toArray, List.set_cons_succ, List.set_cons_zero]
            go_big_quiet_on)
         | (go_big_quiet_op
            first
              | go_big_quiet_on
              | (apply Exists.intro
                 refine ⟨fun w' hC => ?_, ?_⟩
                 · (first | (go_at_call 87; (with_reducible refine (sdo_c' _ _ _ _ _ _).mono ?_); rintro e w1 ⟨rfl, hb1⟩) | (go_at_call 67; (with_reducible refine (fsettled_c' _ _ _ _ _).mono ?_); rintro e w1 ⟨rfl, hb1⟩))
                   (try simp only [Tn.eta, Sp.eta, Fa.eta])
                   exact ⟨rfl, by first | exact hC | exact MkC_keep _ _ hC hb1⟩
                 go_big_quiet_on))))
  refine wpQuiet_nil ?_
  intro w9 hC
  obtain ⟨k0, k1, k2, k3, k4, k5, k6, k7, k8, k9, k10, k11, k12, k13, k14, k15⟩ := hC
  have z0 := cell_lt k0
  have z4 := cell_lt k4
  have z8 := cell_lt k8
  have z12 := cell_lt k12
  go_wp2
  refine bodyPost_ret ?_ rfl ⟨rfl, (by repeat' (first | (with_reducible exact Below.refl _ _) | (with_reducible assumption) | (with_reducible refine Below.alloc ?_ ?_ _) | (with_reducible refine Below.setCell ?_ ?_ _) | (with_reducible refine Below.drew ?_) | (with_reducible refine below_dn ?_ _) | (with_reducible refine Below.trans ?_ (Below.mono (by assumption) ?_)) | go_size))⟩
  simp only [results, Try.results42]; simp [*, go_sem, ↓IntWalk.iteOmega]; try (first | rfl | exact ⟨rfl, rfl⟩)

set_option maxHeartbeats 1000000 in
theorem mk_sub_a0 (wd : Bool) (x y : Fa) (t : Tn) (hx : Fa.known x = none) (hd : Tn.do_ 16 x.t (y).t = none) (w : World) : Calls Try.prog 42 #[.int .u8 16, .bool wd, .int .i16 0, .agg #[.int .u64 (N x.t.v), .int .u64 (N x.t.m), .int .u64 (N x.s.lo), .int .u64 (N x.s.hi)], .agg #[.int .u64 (N y.t.v), .int .u64 (N y.t.m), .int .u64 (N y.s.lo), .int .u64 (N y.s.hi)]] w fun e w' => e = .returned (.agg #[.int .u64 (N (Fa.makes 16 wd 0 x y).t.v), .int .u64 (N (Fa.makes 16 wd 0 x y).t.m), .int .u64 (N (Fa.makes 16 wd 0 x y).s.lo), .int .u64 (N (Fa.makes 16 wd 0 x y).s.hi)]) ∧ Below w.heap.size w w' := by
  rw [Fa.mk_sub (.inl hx), Fa.plain_none hd]
  go_enter Try.func42, Try.ntmps42
  go_wp2_with (first | (go_at_call 20; (with_reducible refine (fknown_c' _ _ _ _ _).mono ?_); rintro e w1 ⟨rfl, hb1⟩; obtain ⟨hc1, hf1, hz1⟩ := bcell hb1; (try simp only [World.size_alloc, World.size_setCell, World.size_drew] at hc1 hf1 hz1)) | (go_at_call 85; (with_reducible refine (found_16 _).mono ?_); rintro e w1 ⟨rfl, rfl⟩) | (go_at_call 41; (with_reducible refine (ado_c _ _ _ _ _ _).mono ?_); rintro e w1 ⟨rfl, rfl⟩) | (go_at_call 17; (with_reducible refine (fof_c' _ _).mono ?_); rintro e w1 ⟨rfl, hb1⟩; obtain ⟨hc1, hf1, hz1⟩ := bcell hb1; (try simp only [World.size_alloc, World.size_setCell, World.size_drew] at hc1 hf1 hz1)) | (go_at_call 25; (with_reducible refine (fany_c _).mono ?_); rintro e w1 ⟨rfl, hb1⟩; obtain ⟨hc1, hf1, hz1⟩ := bcell hb1; (try simp only [World.size_alloc, World.size_setCell, World.size_drew] at hc1 hf1 hz1)))
  go_wp2_with fail
  refine (do_c' _ _ _ _ _ _).mono ?_
  rintro e wT ⟨rfl, hbwT⟩
  obtain ⟨hcwT, hfwT, hzwT⟩ := bcell hbwT
  (try simp only [World.size_alloc, World.size_setCell, World.size_drew] at hcwT hfwT hzwT)
  go_wp2_with (first | (go_at_call 25; (with_reducible refine (fany_c _).mono ?_); rintro e w1 ⟨rfl, hb1⟩; obtain ⟨hc1, hf1, hz1⟩ := bcell hb1; (try simp only [World.size_alloc, World.size_setCell, World.size_drew] at hc1 hf1 hz1)))
  refine wp_region_class_tail (MkC x y Fa.zero Fa.any.t w wT) 8 (by kernel_rfl) (by kernel_rfl) ?_ ?_
  · refine ⟨?_, ?_, ?_, ?_, ?_, ?_, ?_, ?_, ?_, ?_, ?_, ?_, ?_, ?_, ?_, (by repeat' (first | (with_reducible exact Below.refl _ _) | (with_reducible assumption) | (with_reducible refine Below.alloc ?_ ?_ _) | (with_reducible refine Below.setCell ?_ ?_ _) | (with_reducible refine Below.drew ?_) | (with_reducible refine below_dn ?_ _) | (with_reducible refine Below.trans ?_ (Below.mono (by assumption) ?_)) | go_size))⟩
    all_goals first | (intro i; simp [*, go_sem, ↓IntWalk.iteOmega]; done) | (simp [*, go_sem, ↓IntWalk.iteOmega]; done)
  clear hbwT hcwT hfwT hzwT
  intro hN
  (try simp only [List.append])
  simp only [List.take_succ_cons, List.take_zero, List.drop_succ_cons, List.drop_zero]
  repeat (first
    | go_big_quiet_skip
    | (go_big_quiet_want
       first
         | (refine quiet_load_Tn rfl rfl (fun w' hC => by obtain ⟨k0, k1, k2, k3, k4, k5, k6, k7, k8, k9, k10, k11, k12, k13, k14, k15⟩ := hC; first | exact ⟨k0, k1⟩ | exact ⟨k1, k2⟩ | exact ⟨k2, k3⟩ | exact ⟨k3, k4⟩ | exact ⟨k4, k5⟩ | exact ⟨k5, k6⟩ | exact ⟨k6, k7⟩ | exact ⟨k7, k8⟩ | exact ⟨k8, k9⟩ | exact ⟨k9, k10⟩ | exact ⟨k10, k11⟩ | exact ⟨k11, k12⟩ | exact ⟨k12, k13⟩) ?_
            simp only [Act.put, List.setIfInBounds_toArray, List.set_cons_succ, List.set_cons_zero]
            go_big_quiet_on)
         | (refine quiet_load_Sp rfl rfl (fun w' hC => by obtain ⟨k0, k1, k2, k3, k4, k5, k6, k7, k8, k9, k10, k11, k12, k13, k14, k15⟩ := hC; first | exact ⟨k0, k1⟩ | exact ⟨k1, k2⟩ | exact ⟨k2, k3⟩ | exact ⟨k3, k4⟩ | exact ⟨k4, k5⟩ | exact ⟨k5, k6⟩ | exact ⟨k6, k7⟩ | exact ⟨k7, k8⟩ | exact ⟨k8, k9⟩ | exact ⟨k9, k10⟩ | exact ⟨k10, k11⟩ | exact ⟨k11, k12⟩ | exact ⟨k12, k13⟩) ?_
            simp only [Act.put, List.setIfInBounds_toArray, List.set_cons_succ, List.set_cons_zero]
            go_big_quiet_on)
         | (refine quiet_load_Fa rfl rfl (fun w' hC => by obtain ⟨k0, k1, k2, k3, k4, k5, k6, k7, k8, k9, k10, k11, k12, k13, k14, k15⟩ := hC; first | exact ⟨k0, k1, k2, k3⟩ | exact ⟨k1, k2, k3, k4⟩ | exact ⟨k2, k3, k4, k5⟩ | exact ⟨k3, k4, k5, k6⟩ | exact ⟨k4, k5, k6, k7⟩ | exact ⟨k5, k6, k7, k8⟩ | exact ⟨k6, k7, k8, k9⟩ | exact ⟨k7, k8, k9, k10⟩ | exact ⟨k8, k9, k10, k11⟩ | exact ⟨k9, k10, k11, k12⟩ | exact ⟨k10, k11, k12, k13⟩) ?_
            simp only [Act.put, List.setIfInBounds_toArray, List.set_cons_succ, List.set_cons_zero]
            go_big_quiet_on)
         | (refine quiet_load_W rfl rfl (fun w' hC => by obtain ⟨k0, k1, k2, k3, k4, k5, k6, k7, k8, k9, k10, k11, k12, k13, k14, k15⟩ := hC; first | exact k0 | exact k1 | exact k2 | exact k3 | exact k4 | exact k5 | exact k6 | exact k7 | exact k8 | exact k9 | exact k10 | exact k11 | exact k12 | exact k13) ?_
            simp only [Act.put, List.setIfInBounds_toArray, List.set_cons_succ, List.set_cons_zero]
            go_big_quiet_on)
         | (go_big_quiet_op
            first
              | go_big_quiet_on
              | (apply Exists.intro
                 refine ⟨fun w' hC => ?_, ?_⟩
                 · (first | (go_at_call 87; (with_reducible refine (sdo_c' _ _ _ _ _ _).mono ?_); rintro e w1 ⟨rfl, hb1⟩) | (go_at_call 67; (with_reducible refine (fsettled_c' _ _ _ _ _).mono ?_); rintro e w1 ⟨rfl, hb1⟩))
                   (try simp only [Tn.eta, Sp.eta, Fa.eta])
                   exact ⟨rfl, by first | exact hC | exact MkC_keep _ _ hC hb1⟩
                 go_big_quiet_on))))
  refine wpQuiet_nil ?_
  intro w9 hC
  obtain ⟨k0, k1, k2, k3, k4, k5, k6, k7, k8, k9, k10, k11, k12, k13, k14, k15⟩ := hC
  have z0 := cell_lt k0
  have z4 := cell_lt k4
  have z8 := cell_lt k8
  have z12 := cell_lt k12
  go_wp2
  refine bodyPost_ret ?_ rfl ⟨rfl, (by repeat' (first | (with_reducible exact Below.refl _ _) | (with_reducible assumption) | (with_reducible refine Below.alloc ?_ ?_ _) | (with_reducible refine Below.setCell ?_ ?_ _) | (with_reducible refine Below.drew ?_) | (with_reducible refine below_dn ?_ _) | (with_reducible refine Below.trans ?_ (Below.mono (by assumption) ?_)) | go_size))⟩
  simp only [results, Try.results42]; simp [*, go_sem, ↓IntWalk.iteOmega]; try (first | rfl | exact ⟨rfl, rfl⟩)

set_option maxHeartbeats 1000000 in
theorem mk_sub_a1 (wd : Bool) (x y : Fa) (t : Tn) (hx : Fa.known x = none) (hd : Tn.do_ 16 x.t (y).t = some t) (w : World) : Calls Try.prog 42 #[.int .u8 16, .bool wd, .int .i16 0, .agg #[.int .u64 (N x.t.v), .int .u64 (N x.t.m), .int .u64 (N x.s.lo), .int .u64 (N x.s.hi)], .agg #[.int .u64 (N y.t.v), .int .u64 (N y.t.m), .int .u64 (N y.s.lo), .int .u64 (N y.s.hi)]] w fun e w' => e = .returned (.agg #[.int .u64 (N (Fa.makes 16 wd 0 x y).t.v), .int .u64 (N (Fa.makes 16 wd 0 x y).t.m), .int .u64 (N (Fa.makes 16 wd 0 x y).s.lo), .int .u64 (N (Fa.makes 16 wd 0 x y).s.hi)]) ∧ Below w.heap.size w w' := by
  rw [Fa.mk_sub (.inl hx), Fa.plain_some hd]
  go_enter Try.func42, Try.ntmps42
  go_wp2_with (first | (go_at_call 20; (with_reducible refine (fknown_c' _ _ _ _ _).mono ?_); rintro e w1 ⟨rfl, hb1⟩; obtain ⟨hc1, hf1, hz1⟩ := bcell hb1; (try simp only [World.size_alloc, World.size_setCell, World.size_drew] at hc1 hf1 hz1)) | (go_at_call 85; (with_reducible refine (found_16 _).mono ?_); rintro e w1 ⟨rfl, rfl⟩) | (go_at_call 41; (with_reducible refine (ado_c _ _ _ _ _ _).mono ?_); rintro e w1 ⟨rfl, rfl⟩) | (go_at_call 17; (with_reducible refine (fof_c' _ _).mono ?_); rintro e w1 ⟨rfl, hb1⟩; obtain ⟨hc1, hf1, hz1⟩ := bcell hb1; (try simp only [World.size_alloc, World.size_setCell, World.size_drew] at hc1 hf1 hz1)) | (go_at_call 25; (with_reducible refine (fany_c _).mono ?_); rintro e w1 ⟨rfl, hb1⟩; obtain ⟨hc1, hf1, hz1⟩ := bcell hb1; (try simp only [World.size_alloc, World.size_setCell, World.size_drew] at hc1 hf1 hz1)))
  go_wp2_with fail
  refine (do_c' _ _ _ _ _ _).mono ?_
  rintro e wT ⟨rfl, hbwT⟩
  obtain ⟨hcwT, hfwT, hzwT⟩ := bcell hbwT
  (try simp only [World.size_alloc, World.size_setCell, World.size_drew] at hcwT hfwT hzwT)
  go_wp2_with (first | (go_at_call 25; (with_reducible refine (fany_c _).mono ?_); rintro e w1 ⟨rfl, hb1⟩; obtain ⟨hc1, hf1, hz1⟩ := bcell hb1; (try simp only [World.size_alloc, World.size_setCell, World.size_drew] at hc1 hf1 hz1)))
  refine wp_region_class_tail (MkC x y Fa.zero t w wT) 8 (by kernel_rfl) (by kernel_rfl) ?_ ?_
  · refine ⟨?_, ?_, ?_, ?_, ?_, ?_, ?_, ?_, ?_, ?_, ?_, ?_, ?_, ?_, ?_, (by repeat' (first | (with_reducible exact Below.refl _ _) | (with_reducible assumption) | (with_reducible refine Below.alloc ?_ ?_ _) | (with_reducible refine Below.setCell ?_ ?_ _) | (with_reducible refine Below.drew ?_) | (with_reducible refine below_dn ?_ _) | (with_reducible refine Below.trans ?_ (Below.mono (by assumption) ?_)) | go_size))⟩
    all_goals first | (intro i; simp [*, go_sem, ↓IntWalk.iteOmega]; done) | (simp [*, go_sem, ↓IntWalk.iteOmega]; done)
  clear hbwT hcwT hfwT hzwT
  intro hN
  (try simp only [List.append])
  simp only [List.take_succ_cons, List.take_zero, List.drop_succ_cons, List.drop_zero]
  repeat (first
    | go_big_quiet_skip
    | (go_big_quiet_want
       first
         | (refine quiet_load_Tn rfl rfl (fun w' hC => by obtain ⟨k0, k1, k2, k3, k4, k5, k6, k7, k8, k9, k10, k11, k12, k13, k14, k15⟩ := hC; first | exact ⟨k0, k1⟩ | exact ⟨k1, k2⟩ | exact ⟨k2, k3⟩ | exact ⟨k3, k4⟩ | exact ⟨k4, k5⟩ | exact ⟨k5, k6⟩ | exact ⟨k6, k7⟩ | exact ⟨k7, k8⟩ | exact ⟨k8, k9⟩ | exact ⟨k9, k10⟩ | exact ⟨k10, k11⟩ | exact ⟨k11, k12⟩ | exact ⟨k12, k13⟩) ?_
            simp only [Act.put, List.setIfInBounds_toArray, List.set_cons_succ, List.set_cons_zero]
            go_big_quiet_on)
         | (refine quiet_load_Sp rfl rfl (fun w' hC => by obtain ⟨k0, k1, k2, k3, k4, k5, k6, k7, k8, k9, k10, k11, k12, k13, k14, k15⟩ := hC; first | exact ⟨k0, k1⟩ | exact ⟨k1, k2⟩ | exact ⟨k2, k3⟩ | exact ⟨k3, k4⟩ | exact ⟨k4, k5⟩ | exact ⟨k5, k6⟩ | exact ⟨k6, k7⟩ | exact ⟨k7, k8⟩ | exact ⟨k8, k9⟩ | exact ⟨k9, k10⟩ | exact ⟨k10, k11⟩ | exact ⟨k11, k12⟩ | exact ⟨k12, k13⟩) ?_
            simp only [Act.put, List.setIfInBounds_toArray, List.set_cons_succ, List.set_cons_zero]
            go_big_quiet_on)
         | (refine quiet_load_Fa rfl rfl (fun w' hC => by obtain ⟨k0, k1, k2, k3, k4, k5, k6, k7, k8, k9, k10, k11, k12, k13, k14, k15⟩ := hC; first | exact ⟨k0, k1, k2, k3⟩ | exact ⟨k1, k2, k3, k4⟩ | exact ⟨k2, k3, k4, k5⟩ | exact ⟨k3, k4, k5, k6⟩ | exact ⟨k4, k5, k6, k7⟩ | exact ⟨k5, k6, k7, k8⟩ | exact ⟨k6, k7, k8, k9⟩ | exact ⟨k7, k8, k9, k10⟩ | exact ⟨k8, k9, k10, k11⟩ | exact ⟨k9, k10, k11, k12⟩ | exact ⟨k10, k11, k12, k13⟩) ?_
            simp only [Act.put, List.setIfInBounds_toArray, List.set_cons_succ, List.set_cons_zero]
            go_big_quiet_on)
         | (refine quiet_load_W rfl rfl (fun w' hC => by obtain ⟨k0, k1, k2, k3, k4, k5, k6, k7, k8, k9, k10, k11, k12, k13, k14, k15⟩ := hC; first | exact k0 | exact k1 | exact k2 | exact k3 | exact k4 | exact k5 | exact k6 | exact k7 | exact k8 | exact k9 | exact k10 | exact k11 | exact k12 | exact k13) ?_
            simp only [Act.put, List.setIfInBounds_toArray, List.set_cons_succ, List.set_cons_zero]
            go_big_quiet_on)
         | (go_big_quiet_op
            first
              | go_big_quiet_on
              | (apply Exists.intro
                 refine ⟨fun w' hC => ?_, ?_⟩
                 · (first | (go_at_call 87; (with_reducible refine (sdo_c' _ _ _ _ _ _).mono ?_); rintro e w1 ⟨rfl, hb1⟩) | (go_at_call 67; (with_reducible refine (fsettled_c' _ _ _ _ _).mono ?_); rintro e w1 ⟨rfl, hb1⟩))
                   (try simp only [Tn.eta, Sp.eta, Fa.eta])
                   exact ⟨rfl, by first | exact hC | exact MkC_keep _ _ hC hb1⟩
                 go_big_quiet_on))))
  refine wpQuiet_nil ?_
  intro w9 hC
  obtain ⟨k0, k1, k2, k3, k4, k5, k6, k7, k8, k9, k10, k11, k12, k13, k14, k15⟩ := hC
  have z0 := cell_lt k0
  have z4 := cell_lt k4
  have z8 := cell_lt k8
  have z12 := cell_lt k12
  go_wp2
  refine bodyPost_ret ?_ rfl ⟨rfl, (by repeat' (first | (with_reducible exact Below.refl _ _) | (with_reducible assumption) | (with_reducible refine Below.alloc ?_ ?_ _) | (with_reducible refine Below.setCell ?_ ?_ _) | (with_reducible refine Below.drew ?_) | (with_reducible refine below_dn ?_ _) | (with_reducible refine Below.trans ?_ (Below.mono (by assumption) ?_)) | go_size))⟩
  simp only [results, Try.results42]; simp [*, go_sem, ↓IntWalk.iteOmega]; try (first | rfl | exact ⟨rfl, rfl⟩)

set_option maxHeartbeats 1000000 in
theorem mk_mul_a0 (wd : Bool) (x y : Fa) (t : Tn) (hx : Fa.known x = none) (hd : Tn.do_ 32 x.t (y).t = none) (w : World) : Calls Try.prog 42 #[.int .u8 32, .bool wd, .int .i16 0, .agg #[.int .u64 (N x.t.v), .int .u64 (N x.t.m), .int .u64 (N x.s.lo), .int .u64 (N x.s.hi)], .agg #[.int .u64 (N y.t.v), .int .u64 (N y.t.m), .int .u64 (N y.s.lo), .int .u64 (N y.s.hi)]] w fun e w' => e = .returned (.agg #[.int .u64 (N (Fa.makes 32 wd 0 x y).t.v), .int .u64 (N (Fa.makes 32 wd 0 x y).t.m), .int .u64 (N (Fa.makes 32 wd 0 x y).s.lo), .int .u64 (N (Fa.makes 32 wd 0 x y).s.hi)]) ∧ Below w.heap.size w w' := by
  rw [Fa.mk_mul (.inl hx), Fa.plain_none hd]
  go_enter Try.func42, Try.ntmps42
  go_wp2_with (first | (go_at_call 20; (with_reducible refine (fknown_c' _ _ _ _ _).mono ?_); rintro e w1 ⟨rfl, hb1⟩; obtain ⟨hc1, hf1, hz1⟩ := bcell hb1; (try simp only [World.size_alloc, World.size_setCell, World.size_drew] at hc1 hf1 hz1)) | (go_at_call 85; (with_reducible refine (found_32 _).mono ?_); rintro e w1 ⟨rfl, rfl⟩) | (go_at_call 41; (with_reducible refine (ado_c _ _ _ _ _ _).mono ?_); rintro e w1 ⟨rfl, rfl⟩) | (go_at_call 17; (with_reducible refine (fof_c' _ _).mono ?_); rintro e w1 ⟨rfl, hb1⟩; obtain ⟨hc1, hf1, hz1⟩ := bcell hb1; (try simp only [World.size_alloc, World.size_setCell, World.size_drew] at hc1 hf1 hz1)) | (go_at_call 25; (with_reducible refine (fany_c _).mono ?_); rintro e w1 ⟨rfl, hb1⟩; obtain ⟨hc1, hf1, hz1⟩ := bcell hb1; (try simp only [World.size_alloc, World.size_setCell, World.size_drew] at hc1 hf1 hz1)))
  go_wp2_with fail
  refine (do_c' _ _ _ _ _ _).mono ?_
  rintro e wT ⟨rfl, hbwT⟩
  obtain ⟨hcwT, hfwT, hzwT⟩ := bcell hbwT
  (try simp only [World.size_alloc, World.size_setCell, World.size_drew] at hcwT hfwT hzwT)
  go_wp2_with (first | (go_at_call 25; (with_reducible refine (fany_c _).mono ?_); rintro e w1 ⟨rfl, hb1⟩; obtain ⟨hc1, hf1, hz1⟩ := bcell hb1; (try simp only [World.size_alloc, World.size_setCell, World.size_drew] at hc1 hf1 hz1)))
  refine wp_region_class_tail (MkC x y Fa.zero Fa.any.t w wT) 8 (by kernel_rfl) (by kernel_rfl) ?_ ?_
  · refine ⟨?_, ?_, ?_, ?_, ?_, ?_, ?_, ?_, ?_, ?_, ?_, ?_, ?_, ?_, ?_, (by repeat' (first | (with_reducible exact Below.refl _ _) | (with_reducible assumption) | (with_reducible refine Below.alloc ?_ ?_ _) | (with_reducible refine Below.setCell ?_ ?_ _) | (with_reducible refine Below.drew ?_) | (with_reducible refine below_dn ?_ _) | (with_reducible refine Below.trans ?_ (Below.mono (by assumption) ?_)) | go_size))⟩
    all_goals first | (intro i; simp [*, go_sem, ↓IntWalk.iteOmega]; done) | (simp [*, go_sem, ↓IntWalk.iteOmega]; done)
  clear hbwT hcwT hfwT hzwT
  intro hN
  (try simp only [List.append])
  simp only [List.take_succ_cons, List.take_zero, List.drop_succ_cons, List.drop_zero]
  repeat (first
    | go_big_quiet_skip
    | (go_big_quiet_want
       first
         | (refine quiet_load_Tn rfl rfl (fun w' hC => by obtain ⟨k0, k1, k2, k3, k4, k5, k6, k7, k8, k9, k10, k11, k12, k13, k14, k15⟩ := hC; first | exact ⟨k0, k1⟩ | exact ⟨k1, k2⟩ | exact ⟨k2, k3⟩ | exact ⟨k3, k4⟩ | exact ⟨k4, k5⟩ | exact ⟨k5, k6⟩ | exact ⟨k6, k7⟩ | exact ⟨k7, k8⟩ | exact ⟨k8, k9⟩ | exact ⟨k9, k10⟩ | exact ⟨k10, k11⟩ | exact ⟨k11, k12⟩ | exact ⟨k12, k13⟩) ?_
            simp only [Act.put, List.setIfInBounds_toArray, List.set_cons_succ, List.set_cons_zero]
            go_big_quiet_on)
         | (refine quiet_load_Sp rfl rfl (fun w' hC => by obtain ⟨k0, k1, k2, k3, k4, k5, k6, k7, k8, k9, k10, k11, k12, k13, k14, k15⟩ := hC; first | exact ⟨k0, k1⟩ | exact ⟨k1, k2⟩ | exact ⟨k2, k3⟩ | exact ⟨k3, k4⟩ | exact ⟨k4, k5⟩ | exact ⟨k5, k6⟩ | exact ⟨k6, k7⟩ | exact ⟨k7, k8⟩ | exact ⟨k8, k9⟩ | exact ⟨k9, k10⟩ | exact ⟨k10, k11⟩ | exact ⟨k11, k12⟩ | exact ⟨k12, k13⟩) ?_
            simp only [Act.put, List.setIfInBounds_toArray, List.set_cons_succ, List.set_cons_zero]
            go_big_quiet_on)
         | (refine quiet_load_Fa rfl rfl (fun w' hC => by obtain ⟨k0, k1, k2, k3, k4, k5, k6, k7, k8, k9, k10, k11, k12, k13, k14, k15⟩ := hC; first | exact ⟨k0, k1, k2, k3⟩ | exact ⟨k1, k2, k3, k4⟩ | exact ⟨k2, k3, k4, k5⟩ | exact ⟨k3, k4, k5, k6⟩ | exact ⟨k4, k5, k6, k7⟩ | exact ⟨k5, k6, k7, k8⟩ | exact ⟨k6, k7, k8, k9⟩ | exact ⟨k7, k8, k9, k10⟩ | exact ⟨k8, k9, k10, k11⟩ | exact ⟨k9, k10, k11, k12⟩ | exact ⟨k10, k11, k12, k13⟩) ?_
            simp only [Act.put, List.setIfInBounds_toArray, List.set_cons_succ, List.set_cons_zero]
            go_big_quiet_on)
         | (refine quiet_load_W rfl rfl (fun w' hC => by obtain ⟨k0, k1, k2, k3, k4, k5, k6, k7, k8, k9, k10, k11, k12, k13, k14, k15⟩ := hC; first | exact k0 | exact k1 | exact k2 | exact k3 | exact k4 | exact k5 | exact k6 | exact k7 | exact k8 | exact k9 | exact k10 | exact k11 | exact k12 | exact k13) ?_
            simp only [Act.put, List.setIfInBounds_toArray, List.set_cons_succ, List.set_cons_zero]
            go_big_quiet_on)
         | (go_big_quiet_op
            first
              | go_big_quiet_on
              | (apply Exists.intro
                 refine ⟨fun w' hC => ?_, ?_⟩
                 · (first | (go_at_call 87; (with_reducible refine (sdo_c' _ _ _ _ _ _).mono ?_); rintro e w1 ⟨rfl, hb1⟩) | (go_at_call 67; (with_reducible refine (fsettled_c' _ _ _ _ _).mono ?_); rintro e w1 ⟨rfl, hb1⟩))
                   (try simp only [Tn.eta, Sp.eta, Fa.eta])
                   exact ⟨rfl, by first | exact hC | exact MkC_keep _ _ hC hb1⟩
                 go_big_quiet_on))))
  refine wpQuiet_nil ?_
  intro w9 hC
  obtain ⟨k0, k1, k2, k3, k4, k5, k6, k7, k8, k9, k10, k11, k12, k13, k14, k15⟩ := hC
  have z0 := cell_lt k0
  have z4 := cell_lt k4
  have z8 := cell_lt k8
  have z12 := cell_lt k12
  go_wp2
  refine bodyPost_ret ?_ rfl ⟨rfl, (by repeat' (first | (with_reducible exact Below.refl _ _) | (with_reducible assumption) | (with_reducible refine Below.alloc ?_ ?_ _) | (with_reducible refine Below.setCell ?_ ?_ _) | (with_reducible refine Below.drew ?_) | (with_reducible refine below_dn ?_ _) | (with_reducible refine Below.trans ?_ (Below.mono (by assumption) ?_)) | go_size))⟩
  simp only [results, Try.results42]; simp [*, go_sem, ↓IntWalk.iteOmega]; try (first | rfl | exact ⟨rfl, rfl⟩)

set_option maxHeartbeats 1000000 in
theorem mk_mul_a1 (wd : Bool) (x y : Fa) (t : Tn) (hx : Fa.known x = none) (hd : Tn.do_ 32 x.t (y).t = some t) (w : World) : Calls Try.prog 42 #[.int .u8 32, .bool wd, .int .i16 0, .agg #[.int .u64 (N x.t.v), .int .u64 (N x.t.m), .int .u64 (N x.s.lo), .int .u64 (N x.s.hi)], .agg #[.int .u64 (N y.t.v), .int .u64 (N y.t.m), .int .u64 (N y.s.lo), .int .u64 (N y.s.hi)]] w fun e w' => e = .returned (.agg #[.int .u64 (N (Fa.makes 32 wd 0 x y).t.v), .int .u64 (N (Fa.makes 32 wd 0 x y).t.m), .int .u64 (N (Fa.makes 32 wd 0 x y).s.lo), .int .u64 (N (Fa.makes 32 wd 0 x y).s.hi)]) ∧ Below w.heap.size w w' := by
  rw [Fa.mk_mul (.inl hx), Fa.plain_some hd]
  go_enter Try.func42, Try.ntmps42
  go_wp2_with (first | (go_at_call 20; (with_reducible refine (fknown_c' _ _ _ _ _).mono ?_); rintro e w1 ⟨rfl, hb1⟩; obtain ⟨hc1, hf1, hz1⟩ := bcell hb1; (try simp only [World.size_alloc, World.size_setCell, World.size_drew] at hc1 hf1 hz1)) | (go_at_call 85; (with_reducible refine (found_32 _).mono ?_); rintro e w1 ⟨rfl, rfl⟩) | (go_at_call 41; (with_reducible refine (ado_c _ _ _ _ _ _).mono ?_); rintro e w1 ⟨rfl, rfl⟩) | (go_at_call 17; (with_reducible refine (fof_c' _ _).mono ?_); rintro e w1 ⟨rfl, hb1⟩; obtain ⟨hc1, hf1, hz1⟩ := bcell hb1; (try simp only [World.size_alloc, World.size_setCell, World.size_drew] at hc1 hf1 hz1)) | (go_at_call 25; (with_reducible refine (fany_c _).mono ?_); rintro e w1 ⟨rfl, hb1⟩; obtain ⟨hc1, hf1, hz1⟩ := bcell hb1; (try simp only [World.size_alloc, World.size_setCell, World.size_drew] at hc1 hf1 hz1)))
  go_wp2_with fail
  refine (do_c' _ _ _ _ _ _).mono ?_
  rintro e wT ⟨rfl, hbwT⟩
  obtain ⟨hcwT, hfwT, hzwT⟩ := bcell hbwT
  (try simp only [World.size_alloc, World.size_setCell, World.size_drew] at hcwT hfwT hzwT)
  go_wp2_with (first | (go_at_call 25; (with_reducible refine (fany_c _).mono ?_); rintro e w1 ⟨rfl, hb1⟩; obtain ⟨hc1, hf1, hz1⟩ := bcell hb1; (try simp only [World.size_alloc, World.size_setCell, World.size_drew] at hc1 hf1 hz1)))
  refine wp_region_class_tail (MkC x y Fa.zero t w wT) 8 (by kernel_rfl) (by kernel_rfl) ?_ ?_
  · refine ⟨?_, ?_, ?_, ?_, ?_, ?_, ?_, ?_, ?_, ?_, ?_, ?_, ?_, ?_, ?_, (by repeat' (first | (with_reducible exact Below.refl _ _) | (with_reducible assumption) | (with_reducible refine Below.alloc ?_ ?_ _) | (with_reducible refine Below.setCell ?_ ?_ _) | (with_reducible refine Below.drew ?_) | (with_reducible refine below_dn ?_ _) | (with_reducible refine Below.trans ?_ (Below.mono (by assumption) ?_)) | go_size))⟩
    all_goals first | (intro i; simp [*, go_sem, ↓IntWalk.iteOmega]; done) | (simp [*, go_sem, ↓IntWalk.iteOmega]; done)
  clear hbwT hcwT hfwT hzwT
  intro hN
  (try simp only [List.append])
  simp only [List.take_succ_cons, List.take_zero, List.drop_succ_cons, List.drop_zero]
  repeat (first
    | go_big_quiet_skip
    | (go_big_quiet_want
       first
         | (refine quiet_load_Tn rfl rfl (fun w' hC => by obtain ⟨k0, k1, k2, k3, k4, k5, k6, k7, k8, k9, k10, k11, k12, k13, k14, k15⟩ := hC; first | exact ⟨k0, k1⟩ | exact ⟨k1, k2⟩ | exact ⟨k2, k3⟩ | exact ⟨k3, k4⟩ | exact ⟨k4, k5⟩ | exact ⟨k5, k6⟩ | exact ⟨k6, k7⟩ | exact ⟨k7, k8⟩ | exact ⟨k8, k9⟩ | exact ⟨k9, k10⟩ | exact ⟨k10, k11⟩ | exact ⟨k11, k12⟩ | exact ⟨k12, k13⟩) ?_
            simp only [Act.put, List.setIfInBounds_toArray, List.set_cons_succ, List.set_cons_zero]
            go_big_quiet_on)
         | (refine quiet_load_Sp rfl rfl (fun w' hC => by obtain ⟨k0, k1, k2, k3, k4, k5, k6, k7, k8, k9, k10, k11, k12, k13, k14, k15⟩ := hC; first | exact ⟨k0, k1⟩ | exact ⟨k1, k2⟩ | exact ⟨k2, k3⟩ | exact ⟨k3, k4⟩ | exact ⟨k4, k5⟩ | exact ⟨k5, k6⟩ | exact ⟨k6, k7⟩ | exact ⟨k7, k8⟩ | exact ⟨k8, k9⟩ | exact ⟨k9, k10⟩ | exact ⟨k10, k11⟩ | exact ⟨k11, k12⟩ | exact ⟨k12, k13⟩) ?_
            simp only [Act.put, List.setIfInBounds_toArray, List.set_cons_succ, List.set_cons_zero]
            go_big_quiet_on)
         | (refine quiet_load_Fa rfl rfl (fun w' hC => by obtain ⟨k0, k1, k2, k3, k4, k5, k6, k7, k8, k9, k10, k11, k12, k13, k14, k15⟩ := hC; first | exact ⟨k0, k1, k2, k3⟩ | exact ⟨k1, k2, k3, k4⟩ | exact ⟨k2, k3, k4, k5⟩ | exact ⟨k3, k4, k5, k6⟩ | exact ⟨k4, k5, k6, k7⟩ | exact ⟨k5, k6, k7, k8⟩ | exact ⟨k6, k7, k8, k9⟩ | exact ⟨k7, k8, k9, k10⟩ | exact ⟨k8, k9, k10, k11⟩ | exact ⟨k9, k10, k11, k12⟩ | exact ⟨k10, k11, k12, k13⟩) ?_
            simp only [Act.put, List.setIfInBounds_toArray, List.set_cons_succ, List.set_cons_zero]
            go_big_quiet_on)
         | (refine quiet_load_W rfl rfl (fun w' hC => by obtain ⟨k0, k1, k2, k3, k4, k5, k6, k7, k8, k9, k10, k11, k12, k13, k14, k15⟩ := hC; first | exact k0 | exact k1 | exact k2 | exact k3 | exact k4 | exact k5 | exact k6 | exact k7 | exact k8 | exact k9 | exact k10 | exact k11 | exact k12 | exact k13) ?_
            simp only [Act.put, List.setIfInBounds_toArray, List.set_cons_succ, List.set_cons_zero]
            go_big_quiet_on)
         | (go_big_quiet_op
            first
              | go_big_quiet_on
              | (apply Exists.intro
                 refine ⟨fun w' hC => ?_, ?_⟩
                 · (first | (go_at_call 87; (with_reducible refine (sdo_c' _ _ _ _ _ _).mono ?_); rintro e w1 ⟨rfl, hb1⟩) | (go_at_call 67; (with_reducible refine (fsettled_c' _ _ _ _ _).mono ?_); rintro e w1 ⟨rfl, hb1⟩))
                   (try simp only [Tn.eta, Sp.eta, Fa.eta])
                   exact ⟨rfl, by first | exact hC | exact MkC_keep _ _ hC hb1⟩
                 go_big_quiet_on))))
  refine wpQuiet_nil ?_
  intro w9 hC
  obtain ⟨k0, k1, k2, k3, k4, k5, k6, k7, k8, k9, k10, k11, k12, k13, k14, k15⟩ := hC
  have z0 := cell_lt k0
  have z4 := cell_lt k4
  have z8 := cell_lt k8
  have z12 := cell_lt k12
  go_wp2
  refine bodyPost_ret ?_ rfl ⟨rfl, (by repeat' (first | (with_reducible exact Below.refl _ _) | (with_reducible assumption) | (with_reducible refine Below.alloc ?_ ?_ _) | (with_reducible refine Below.setCell ?_ ?_ _) | (with_reducible refine Below.drew ?_) | (with_reducible refine below_dn ?_ _) | (with_reducible refine Below.trans ?_ (Below.mono (by assumption) ?_)) | go_size))⟩
  simp only [results, Try.results42]; simp [*, go_sem, ↓IntWalk.iteOmega]; try (first | rfl | exact ⟨rfl, rfl⟩)

set_option maxHeartbeats 1000000 in
theorem mk_and_a0 (wd : Bool) (x y : Fa) (t : Tn) (hx : Fa.known x = none) (hd : Tn.do_ 80 x.t (y).t = none) (w : World) : Calls Try.prog 42 #[.int .u8 80, .bool wd, .int .i16 0, .agg #[.int .u64 (N x.t.v), .int .u64 (N x.t.m), .int .u64 (N x.s.lo), .int .u64 (N x.s.hi)], .agg #[.int .u64 (N y.t.v), .int .u64 (N y.t.m), .int .u64 (N y.s.lo), .int .u64 (N y.s.hi)]] w fun e w' => e = .returned (.agg #[.int .u64 (N (Fa.makes 80 wd 0 x y).t.v), .int .u64 (N (Fa.makes 80 wd 0 x y).t.m), .int .u64 (N (Fa.makes 80 wd 0 x y).s.lo), .int .u64 (N (Fa.makes 80 wd 0 x y).s.hi)]) ∧ Below w.heap.size w w' := by
  rw [Fa.mk_and (.inl hx), Fa.plain_none hd]
  go_enter Try.func42, Try.ntmps42
  go_wp2_with (first | (go_at_call 20; (with_reducible refine (fknown_c' _ _ _ _ _).mono ?_); rintro e w1 ⟨rfl, hb1⟩; obtain ⟨hc1, hf1, hz1⟩ := bcell hb1; (try simp only [World.size_alloc, World.size_setCell, World.size_drew] at hc1 hf1 hz1)) | (go_at_call 85; (with_reducible refine (found_80 _).mono ?_); rintro e w1 ⟨rfl, rfl⟩) | (go_at_call 41; (with_reducible refine (ado_c _ _ _ _ _ _).mono ?_); rintro e w1 ⟨rfl, rfl⟩) | (go_at_call 17; (with_reducible refine (fof_c' _ _).mono ?_); rintro e w1 ⟨rfl, hb1⟩; obtain ⟨hc1, hf1, hz1⟩ := bcell hb1; (try simp only [World.size_alloc, World.size_setCell, World.size_drew] at hc1 hf1 hz1)) | (go_at_call 25; (with_reducible refine (fany_c _).mono ?_); rintro e w1 ⟨rfl, hb1⟩; obtain ⟨hc1, hf1, hz1⟩ := bcell hb1; (try simp only [World.size_alloc, World.size_setCell, World.size_drew] at hc1 hf1 hz1)))
  go_wp2_with fail
  refine (do_c' _ _ _ _ _ _).mono ?_
  rintro e wT ⟨rfl, hbwT⟩
  obtain ⟨hcwT, hfwT, hzwT⟩ := bcell hbwT
  (try simp only [World.size_alloc, World.size_setCell, World.size_drew] at hcwT hfwT hzwT)
  go_wp2_with (first | (go_at_call 25; (with_reducible refine (fany_c _).mono ?_); rintro e w1 ⟨rfl, hb1⟩; obtain ⟨hc1, hf1, hz1⟩ := bcell hb1; (try simp only [World.size_alloc, World.size_setCell, World.size_drew] at hc1 hf1 hz1)))
  refine wp_region_class_tail (MkC x y Fa.zero Fa.any.t w wT) 8 (by kernel_rfl) (by kernel_rfl) ?_ ?_
  · refine ⟨?_, ?_, ?_, ?_, ?_, ?_, ?_, ?_, ?_, ?_, ?_, ?_, ?_, ?_, ?_, (by repeat' (first | (with_reducible exact Below.refl _ _) | (with_reducible assumption) | (with_reducible refine Below.alloc ?_ ?_ _) | (with_reducible refine Below.setCell ?_ ?_ _) | (with_reducible refine Below.drew ?_) | (with_reducible refine below_dn ?_ _) | (with_reducible refine Below.trans ?_ (Below.mono (by assumption) ?_)) | go_size))⟩
    all_goals first | (intro i; simp [*, go_sem, ↓IntWalk.iteOmega]; done) | (simp [*, go_sem, ↓IntWalk.iteOmega]; done)
  clear hbwT hcwT hfwT hzwT
  intro hN
  (try simp only [List.append])
  simp only [List.take_succ_cons, List.take_zero, List.drop_succ_cons, List.drop_zero]
  repeat (first
    | go_big_quiet_skip
    | (go_big_quiet_want
       first
         | (refine quiet_load_Tn rfl rfl (fun w' hC => by obtain ⟨k0, k1, k2, k3, k4, k5, k6, k7, k8, k9, k10, k11, k12, k13, k14, k15⟩ := hC; first | exact ⟨k0, k1⟩ | exact ⟨k1, k2⟩ | exact ⟨k2, k3⟩ | exact ⟨k3, k4⟩ | exact ⟨k4, k5⟩ | exact ⟨k5, k6⟩ | exact ⟨k6, k7⟩ | exact ⟨k7, k8⟩ | exact ⟨k8, k9⟩ | exact ⟨k9, k10⟩ | exact ⟨k10, k11⟩ | exact ⟨k11, k12⟩ | exact ⟨k12, k13⟩) ?_
            simp only [Act.put, List.setIfInBounds_toArray, List.set_cons_succ, List.set_cons_zero]
            go_big_quiet_on)
         | (refine quiet_load_Sp rfl rfl (fun w' hC => by obtain ⟨k0, k1, k2, k3, k4, k5, k6, k7, k8, k9, k10, k11, k12, k13, k14, k15⟩ := hC; first | exact ⟨k0, k1⟩ | exact ⟨k1, k2⟩ | exact ⟨k2, k3⟩ | exact ⟨k3, k4⟩ | exact ⟨k4, k5⟩ | exact ⟨k5, k6⟩ | exact ⟨k6, k7⟩ | exact ⟨k7, k8⟩ | exact ⟨k8, k9⟩ | exact ⟨k9, k10⟩ | exact ⟨k10, k11⟩ | exact ⟨k11, k12⟩ | exact ⟨k12, k13⟩) ?_
            simp only [Act.put, List.setIfInBounds_toArray, List.set_cons_succ, List.set_cons_zero]
            go_big_quiet_on)
         | (refine quiet_load_Fa rfl rfl (fun w' hC => by obtain ⟨k0, k1, k2, k3, k4, k5, k6, k7, k8, k9, k10, k11, k12, k13, k14, k15⟩ := hC; first | exact ⟨k0, k1, k2, k3⟩ | exact ⟨k1, k2, k3, k4⟩ | exact ⟨k2, k3, k4, k5⟩ | exact ⟨k3, k4, k5, k6⟩ | exact ⟨k4, k5, k6, k7⟩ | exact ⟨k5, k6, k7, k8⟩ | exact ⟨k6, k7, k8, k9⟩ | exact ⟨k7, k8, k9, k10⟩ | exact ⟨k8, k9, k10, k11⟩ | exact ⟨k9, k10, k11, k12⟩ | exact ⟨k10, k11, k12, k13⟩) ?_
            simp only [Act.put, List.setIfInBounds_toArray, List.set_cons_succ, List.set_cons_zero]
            go_big_quiet_on)
         | (refine quiet_load_W rfl rfl (fun w' hC => by obtain ⟨k0, k1, k2, k3, k4, k5, k6, k7, k8, k9, k10, k11, k12, k13, k14, k15⟩ := hC; first | exact k0 | exact k1 | exact k2 | exact k3 | exact k4 | exact k5 | exact k6 | exact k7 | exact k8 | exact k9 | exact k10 | exact k11 | exact k12 | exact k13) ?_
            simp only [Act.put, List.setIfInBounds_toArray, List.set_cons_succ, List.set_cons_zero]
            go_big_quiet_on)
         | (go_big_quiet_op
            first
              | go_big_quiet_on
              | (apply Exists.intro
                 refine ⟨fun w' hC => ?_, ?_⟩
                 · (first | (go_at_call 87; (with_reducible refine (sdo_c' _ _ _ _ _ _).mono ?_); rintro e w1 ⟨rfl, hb1⟩) | (go_at_call 67; (with_reducible refine (fsettled_c' _ _ _ _ _).mono ?_); rintro e w1 ⟨rfl, hb1⟩))
                   (try simp only [Tn.eta, Sp.eta, Fa.eta])
                   exact ⟨rfl, by first | exact hC | exact MkC_keep _ _ hC hb1⟩
                 go_big_quiet_on))))
  refine wpQuiet_nil ?_
  intro w9 hC
  obtain ⟨k0, k1, k2, k3, k4, k5, k6, k7, k8, k9, k10, k11, k12, k13, k14, k15⟩ := hC
  have z0 := cell_lt k0
  have z4 := cell_lt k4
  have z8 := cell_lt k8
  have z12 := cell_lt k12
  go_wp2
  refine bodyPost_ret ?_ rfl ⟨rfl, (by repeat' (first | (with_reducible exact Below.refl _ _) | (with_reducible assumption) | (with_reducible refine Below.alloc ?_ ?_ _) | (with_reducible refine Below.setCell ?_ ?_ _) | (with_reducible refine Below.drew ?_) | (with_reducible refine below_dn ?_ _) | (with_reducible refine Below.trans ?_ (Below.mono (by assumption) ?_)) | go_size))⟩
  simp only [results, Try.results42]; simp [*, go_sem, ↓IntWalk.iteOmega]; try (first | rfl | exact ⟨rfl, rfl⟩)

set_option maxHeartbeats 1000000 in
theorem mk_and_a1 (wd : Bool) (x y : Fa) (t : Tn) (hx : Fa.known x = none) (hd : Tn.do_ 80 x.t (y).t = some t) (w : World) : Calls Try.prog 42 #[.int .u8 80, .bool wd, .int .i16 0, .agg #[.int .u64 (N x.t.v), .int .u64 (N x.t.m), .int .u64 (N x.s.lo), .int .u64 (N x.s.hi)], .agg #[.int .u64 (N y.t.v), .int .u64 (N y.t.m), .int .u64 (N y.s.lo), .int .u64 (N y.s.hi)]] w fun e w' => e = .returned (.agg #[.int .u64 (N (Fa.makes 80 wd 0 x y).t.v), .int .u64 (N (Fa.makes 80 wd 0 x y).t.m), .int .u64 (N (Fa.makes 80 wd 0 x y).s.lo), .int .u64 (N (Fa.makes 80 wd 0 x y).s.hi)]) ∧ Below w.heap.size w w' := by
  rw [Fa.mk_and (.inl hx), Fa.plain_some hd]
  go_enter Try.func42, Try.ntmps42
  go_wp2_with (first | (go_at_call 20; (with_reducible refine (fknown_c' _ _ _ _ _).mono ?_); rintro e w1 ⟨rfl, hb1⟩; obtain ⟨hc1, hf1, hz1⟩ := bcell hb1; (try simp only [World.size_alloc, World.size_setCell, World.size_drew] at hc1 hf1 hz1)) | (go_at_call 85; (with_reducible refine (found_80 _).mono ?_); rintro e w1 ⟨rfl, rfl⟩) | (go_at_call 41; (with_reducible refine (ado_c _ _ _ _ _ _).mono ?_); rintro e w1 ⟨rfl, rfl⟩) | (go_at_call 17; (with_reducible refine (fof_c' _ _).mono ?_); rintro e w1 ⟨rfl, hb1⟩; obtain ⟨hc1, hf1, hz1⟩ := bcell hb1; (try simp only [World.size_alloc, World.size_setCell, World.size_drew] at hc1 hf1 hz1)) | (go_at_call 25; (with_reducible refine (fany_c _).mono ?_); rintro e w1 ⟨rfl, hb1⟩; obtain ⟨hc1, hf1, hz1⟩ := bcell hb1; (try simp only [World.size_alloc, World.size_setCell, World.size_drew] at hc1 hf1 hz1)))
  go_wp2_with fail
  refine (do_c' _ _ _ _ _ _).mono ?_
  rintro e wT ⟨rfl, hbwT⟩
  obtain ⟨hcwT, hfwT, hzwT⟩ := bcell hbwT
  (try simp only [World.size_alloc, World.size_setCell, World.size_drew] at hcwT hfwT hzwT)
  go_wp2_with (first | (go_at_call 25; (with_reducible refine (fany_c _).mono ?_); rintro e w1 ⟨rfl, hb1⟩; obtain ⟨hc1, hf1, hz1⟩ := bcell hb1; (try simp only [World.size_alloc, World.size_setCell, World.size_drew] at hc1 hf1 hz1)))
  refine wp_region_class_tail (MkC x y Fa.zero t w wT) 8 (by kernel_rfl) (by kernel_rfl) ?_ ?_
  · refine ⟨?_, ?_, ?_, ?_, ?_, ?_, ?_, ?_, ?_, ?_, ?_, ?_, ?_, ?_, ?_, (by repeat' (first | (with_reducible exact Below.refl _ _) | (with_reducible assumption) | (with_reducible refine Below.alloc ?_ ?_ _) | (with_reducible refine Below.setCell ?_ ?_ _) | (with_reducible refine Below.drew ?_) | (with_reducible refine below_dn ?_ _) | (with_reducible refine Below.trans ?_ (Below.mono (by assumption) ?_)) | go_size))⟩
    all_goals first | (intro i; simp [*, go_sem, ↓IntWalk.iteOmega]; done) | (simp [*, go_sem, ↓IntWalk.iteOmega]; done)
  clear hbwT hcwT hfwT hzwT
  intro hN
  (try simp only [List.append])
  simp only [List.take_succ_cons, List.take_zero, List.drop_succ_cons, List.drop_zero]
  repeat (first
    | go_big_quiet_skip
    | (go_big_quiet_want
       first
         | (refine quiet_load_Tn rfl rfl (fun w' hC => by obtain ⟨k0, k1, k2, k3, k4, k5, k6, k7, k8, k9, k10, k11, k12, k13, k14, k15⟩ := hC; first | exact ⟨k0, k1⟩ | exact ⟨k1, k2⟩ | exact ⟨k2, k3⟩ | exact ⟨k3, k4⟩ | exact ⟨k4, k5⟩ | exact ⟨k5, k6⟩ | exact ⟨k6, k7⟩ | exact ⟨k7, k8⟩ | exact ⟨k8, k9⟩ | exact ⟨k9, k10⟩ | exact ⟨k10, k11⟩ | exact ⟨k11, k12⟩ | exact ⟨k12, k13⟩) ?_
            simp only [Act.put, List.setIfInBounds_toArray, List.set_cons_succ, List.set_cons_zero]
            go_big_quiet_on)
         | (refine quiet_load_Sp rfl rfl (fun w' hC => by obtain ⟨k0, k1, k2, k3, k4, k5, k6, k7, k8, k9, k10, k11, k12, k13, k14, k15⟩ := hC; first | exact ⟨k0, k1⟩ | exact ⟨k1, k2⟩ | exact ⟨k2, k3⟩ | exact ⟨k3, k4⟩ | exact ⟨k4, k5⟩ | exact ⟨k5, k6⟩ | exact ⟨k6, k7⟩ | exact ⟨k7, k8⟩ | exact ⟨k8, k9⟩ | exact ⟨k9, k10⟩ | exact ⟨k10, k11⟩ | exact ⟨k11, k12⟩ | exact ⟨k12, k13⟩) ?_
            simp only [Act.put, List.setIfInBounds_toArray, List.set_cons_succ, List.set_cons_zero]
            go_big_quiet_on)
         | (refine quiet_load_Fa rfl rfl (fun w' hC => by obtain ⟨k0, k1, k2, k3, k4, k5, k6, k7, k8, k9, k10, k11, k12, k13, k14, k15⟩ := hC; first | exact ⟨k0, k1, k2, k3⟩ | exact ⟨k1, k2, k3, k4⟩ | exact ⟨k2, k3, k4, k5⟩ | exact ⟨k3, k4, k5, k6⟩ | exact ⟨k4, k5, k6, k7⟩ | exact ⟨k5, k6, k7, k8⟩ | exact ⟨k6, k7, k8, k9⟩ | exact ⟨k7, k8, k9, k10⟩ | exact ⟨k8, k9, k10, k11⟩ | exact ⟨k9, k10, k11, k12⟩ | exact ⟨k10, k11, k12, k13⟩) ?_
            simp only [Act.put, List.setIfInBounds_toArray, List.set_cons_succ, List.set_cons_zero]
            go_big_quiet_on)
         | (refine quiet_load_W rfl rfl (fun w' hC => by obtain ⟨k0, k1, k2, k3, k4, k5, k6, k7, k8, k9, k10, k11, k12, k13, k14, k15⟩ := hC; first | exact k0 | exact k1 | exact k2 | exact k3 | exact k4 | exact k5 | exact k6 | exact k7 | exact k8 | exact k9 | exact k10 | exact k11 | exact k12 | exact k13) ?_
            simp only [Act.put, List.setIfInBounds_toArray, List.set_cons_succ, List.set_cons_zero]
            go_big_quiet_on)
         | (go_big_quiet_op
            first
              | go_big_quiet_on
              | (apply Exists.intro
                 refine ⟨fun w' hC => ?_, ?_⟩
                 · (first | (go_at_call 87; (with_reducible refine (sdo_c' _ _ _ _ _ _).mono ?_); rintro e w1 ⟨rfl, hb1⟩) | (go_at_call 67; (with_reducible refine (fsettled_c' _ _ _ _ _).mono ?_); rintro e w1 ⟨rfl, hb1⟩))
                   (try simp only [Tn.eta, Sp.eta, Fa.eta])
                   exact ⟨rfl, by first | exact hC | exact MkC_keep _ _ hC hb1⟩
                 go_big_quiet_on))))
  refine wpQuiet_nil ?_
  intro w9 hC
  obtain ⟨k0, k1, k2, k3, k4, k5, k6, k7, k8, k9, k10, k11, k12, k13, k14, k15⟩ := hC
  have z0 := cell_lt k0
  have z4 := cell_lt k4
  have z8 := cell_lt k8
  have z12 := cell_lt k12
  go_wp2
  refine bodyPost_ret ?_ rfl ⟨rfl, (by repeat' (first | (with_reducible exact Below.refl _ _) | (with_reducible assumption) | (with_reducible refine Below.alloc ?_ ?_ _) | (with_reducible refine Below.setCell ?_ ?_ _) | (with_reducible refine Below.drew ?_) | (with_reducible refine below_dn ?_ _) | (with_reducible refine Below.trans ?_ (Below.mono (by assumption) ?_)) | go_size))⟩
  simp only [results, Try.results42]; simp [*, go_sem, ↓IntWalk.iteOmega]; try (first | rfl | exact ⟨rfl, rfl⟩)

set_option maxHeartbeats 1000000 in
theorem mk_or_a0 (wd : Bool) (x y : Fa) (t : Tn) (hx : Fa.known x = none) (hd : Tn.do_ 64 x.t (y).t = none) (w : World) : Calls Try.prog 42 #[.int .u8 64, .bool wd, .int .i16 0, .agg #[.int .u64 (N x.t.v), .int .u64 (N x.t.m), .int .u64 (N x.s.lo), .int .u64 (N x.s.hi)], .agg #[.int .u64 (N y.t.v), .int .u64 (N y.t.m), .int .u64 (N y.s.lo), .int .u64 (N y.s.hi)]] w fun e w' => e = .returned (.agg #[.int .u64 (N (Fa.makes 64 wd 0 x y).t.v), .int .u64 (N (Fa.makes 64 wd 0 x y).t.m), .int .u64 (N (Fa.makes 64 wd 0 x y).s.lo), .int .u64 (N (Fa.makes 64 wd 0 x y).s.hi)]) ∧ Below w.heap.size w w' := by
  rw [Fa.mk_or (.inl hx), Fa.plain_none hd]
  go_enter Try.func42, Try.ntmps42
  go_wp2_with (first | (go_at_call 20; (with_reducible refine (fknown_c' _ _ _ _ _).mono ?_); rintro e w1 ⟨rfl, hb1⟩; obtain ⟨hc1, hf1, hz1⟩ := bcell hb1; (try simp only [World.size_alloc, World.size_setCell, World.size_drew] at hc1 hf1 hz1)) | (go_at_call 85; (with_reducible refine (found_64 _).mono ?_); rintro e w1 ⟨rfl, rfl⟩) | (go_at_call 41; (with_reducible refine (ado_c _ _ _ _ _ _).mono ?_); rintro e w1 ⟨rfl, rfl⟩) | (go_at_call 17; (with_reducible refine (fof_c' _ _).mono ?_); rintro e w1 ⟨rfl, hb1⟩; obtain ⟨hc1, hf1, hz1⟩ := bcell hb1; (try simp only [World.size_alloc, World.size_setCell, World.size_drew] at hc1 hf1 hz1)) | (go_at_call 25; (with_reducible refine (fany_c _).mono ?_); rintro e w1 ⟨rfl, hb1⟩; obtain ⟨hc1, hf1, hz1⟩ := bcell hb1; (try simp only [World.size_alloc, World.size_setCell, World.size_drew] at hc1 hf1 hz1)))
  go_wp2_with fail
  refine (do_c' _ _ _ _ _ _).mono ?_
  rintro e wT ⟨rfl, hbwT⟩
  obtain ⟨hcwT, hfwT, hzwT⟩ := bcell hbwT
  (try simp only [World.size_alloc, World.size_setCell, World.size_drew] at hcwT hfwT hzwT)
  go_wp2_with (first | (go_at_call 25; (with_reducible refine (fany_c _).mono ?_); rintro e w1 ⟨rfl, hb1⟩; obtain ⟨hc1, hf1, hz1⟩ := bcell hb1; (try simp only [World.size_alloc, World.size_setCell, World.size_drew] at hc1 hf1 hz1)))
  refine wp_region_class_tail (MkC x y Fa.zero Fa.any.t w wT) 8 (by kernel_rfl) (by kernel_rfl) ?_ ?_
  · refine ⟨?_, ?_, ?_, ?_, ?_, ?_, ?_, ?_, ?_, ?_, ?_, ?_, ?_, ?_, ?_, (by repeat' (first | (with_reducible exact Below.refl _ _) | (with_reducible assumption) | (with_reducible refine Below.alloc ?_ ?_ _) | (with_reducible refine Below.setCell ?_ ?_ _) | (with_reducible refine Below.drew ?_) | (with_reducible refine below_dn ?_ _) | (with_reducible refine Below.trans ?_ (Below.mono (by assumption) ?_)) | go_size))⟩
    all_goals first | (intro i; simp [*, go_sem, ↓IntWalk.iteOmega]; done) | (simp [*, go_sem, ↓IntWalk.iteOmega]; done)
  clear hbwT hcwT hfwT hzwT
  intro hN
  (try simp only [List.append])
  simp only [List.take_succ_cons, List.take_zero, List.drop_succ_cons, List.drop_zero]
  repeat (first
    | go_big_quiet_skip
    | (go_big_quiet_want
       first
         | (refine quiet_load_Tn rfl rfl (fun w' hC => by obtain ⟨k0, k1, k2, k3, k4, k5, k6, k7, k8, k9, k10, k11, k12, k13, k14, k15⟩ := hC; first | exact ⟨k0, k1⟩ | exact ⟨k1, k2⟩ | exact ⟨k2, k3⟩ | exact ⟨k3, k4⟩ | exact ⟨k4, k5⟩ | exact ⟨k5, k6⟩ | exact ⟨k6, k7⟩ | exact ⟨k7, k8⟩ | exact ⟨k8, k9⟩ | exact ⟨k9, k10⟩ | exact ⟨k10, k11⟩ | exact ⟨k11, k12⟩ | exact ⟨k12, k13⟩) ?_
            simp only [Act.put, List.setIfInBounds_toArray, List.set_cons_succ, List.set_cons_zero]
            go_big_quiet_on)
         | (refine quiet_load_Sp rfl rfl (fun w' hC => by obtain ⟨k0, k1, k2, k3, k4, k5, k6, k7, k8, k9, k10, k11, k12, k13, k14, k15⟩ := hC; first | exact ⟨k0, k1⟩ | exact ⟨k1, k2⟩ | exact ⟨k2, k3⟩ | exact ⟨k3, k4⟩ | exact ⟨k4, k5⟩ | exact ⟨k5, k6⟩ | exact ⟨k6, k7⟩ | exact ⟨k7, k8⟩ | exact ⟨k8, k9⟩ | exact ⟨k9, k10⟩ | exact ⟨k10, k11⟩ | exact ⟨k11, k12⟩ | exact ⟨k12, k13⟩) ?_
            simp only [Act.put, List.setIfInBounds_toArray, List.set_cons_succ, List.set_cons_zero]
            go_big_quiet_on)
         | (refine quiet_load_Fa rfl rfl (fun w' hC => by obtain ⟨k0, k1, k2, k3, k4, k5, k6, k7, k8, k9, k10, k11, k12, k13, k14, k15⟩ := hC; first | exact ⟨k0, k1, k2, k3⟩ | exact ⟨k1, k2, k3, k4⟩ | exact ⟨k2, k3, k4, k5⟩ | exact ⟨k3, k4, k5, k6⟩ | exact ⟨k4, k5, k6, k7⟩ | exact ⟨k5, k6, k7, k8⟩ | exact ⟨k6, k7, k8, k9⟩ | exact ⟨k7, k8, k9, k10⟩ | exact ⟨k8, k9, k10, k11⟩ | exact ⟨k9, k10, k11, k12⟩ | exact ⟨k10, k11, k12, k13⟩) ?_
            simp only [Act.put, List.setIfInBounds_toArray, List.set_cons_succ, List.set_cons_zero]
            go_big_quiet_on)
         | (refine quiet_load_W rfl rfl (fun w' hC => by obtain ⟨k0, k1, k2, k3, k4, k5, k6, k7, k8, k9, k10, k11, k12, k13, k14, k15⟩ := hC; first | exact k0 | exact k1 | exact k2 | exact k3 | exact k4 | exact k5 | exact k6 | exact k7 | exact k8 | exact k9 | exact k10 | exact k11 | exact k12 | exact k13) ?_
            simp only [Act.put, List.setIfInBounds_toArray, List.set_cons_succ, List.set_cons_zero]
            go_big_quiet_on)
         | (go_big_quiet_op
            first
              | go_big_quiet_on
              | (apply Exists.intro
                 refine ⟨fun w' hC => ?_, ?_⟩
                 · (first | (go_at_call 87; (with_reducible refine (sdo_c' _ _ _ _ _ _).mono ?_); rintro e w1 ⟨rfl, hb1⟩) | (go_at_call 67; (with_reducible refine (fsettled_c' _ _ _ _ _).mono ?_); rintro e w1 ⟨rfl, hb1⟩))
                   (try simp only [Tn.eta, Sp.eta, Fa.eta])
                   exact ⟨rfl, by first | exact hC | exact MkC_keep _ _ hC hb1⟩
                 go_big_quiet_on))))
  refine wpQuiet_nil ?_
  intro w9 hC
  obtain ⟨k0, k1, k2, k3, k4, k5, k6, k7, k8, k9, k10, k11, k12, k13, k14, k15⟩ := hC
  have z0 := cell_lt k0
  have z4 := cell_lt k4
  have z8 := cell_lt k8
  have z12 := cell_lt k12
  go_wp2
  refine bodyPost_ret ?_ rfl ⟨rfl, (by repeat' (first | (with_reducible exact Below.refl _ _) | (with_reducible assumption) | (with_reducible refine Below.alloc ?_ ?_ _) | (with_reducible refine Below.setCell ?_ ?_ _) | (with_reducible refine Below.drew ?_) | (with_reducible refine below_dn ?_ _) | (with_reducible refine Below.trans ?_ (Below.mono (by assumption) ?_)) | go_size))⟩
  simp only [results, Try.results42]; simp [*, go_sem, ↓IntWalk.iteOmega]; try (first | rfl | exact ⟨rfl, rfl⟩)

set_option maxHeartbeats 1000000 in
theorem mk_or_a1 (wd : Bool) (x y : Fa) (t : Tn) (hx : Fa.known x = none) (hd : Tn.do_ 64 x.t (y).t = some t) (w : World) : Calls Try.prog 42 #[.int .u8 64, .bool wd, .int .i16 0, .agg #[.int .u64 (N x.t.v), .int .u64 (N x.t.m), .int .u64 (N x.s.lo), .int .u64 (N x.s.hi)], .agg #[.int .u64 (N y.t.v), .int .u64 (N y.t.m), .int .u64 (N y.s.lo), .int .u64 (N y.s.hi)]] w fun e w' => e = .returned (.agg #[.int .u64 (N (Fa.makes 64 wd 0 x y).t.v), .int .u64 (N (Fa.makes 64 wd 0 x y).t.m), .int .u64 (N (Fa.makes 64 wd 0 x y).s.lo), .int .u64 (N (Fa.makes 64 wd 0 x y).s.hi)]) ∧ Below w.heap.size w w' := by
  rw [Fa.mk_or (.inl hx), Fa.plain_some hd]
  go_enter Try.func42, Try.ntmps42
  go_wp2_with (first | (go_at_call 20; (with_reducible refine (fknown_c' _ _ _ _ _).mono ?_); rintro e w1 ⟨rfl, hb1⟩; obtain ⟨hc1, hf1, hz1⟩ := bcell hb1; (try simp only [World.size_alloc, World.size_setCell, World.size_drew] at hc1 hf1 hz1)) | (go_at_call 85; (with_reducible refine (found_64 _).mono ?_); rintro e w1 ⟨rfl, rfl⟩) | (go_at_call 41; (with_reducible refine (ado_c _ _ _ _ _ _).mono ?_); rintro e w1 ⟨rfl, rfl⟩) | (go_at_call 17; (with_reducible refine (fof_c' _ _).mono ?_); rintro e w1 ⟨rfl, hb1⟩; obtain ⟨hc1, hf1, hz1⟩ := bcell hb1; (try simp only [World.size_alloc, World.size_setCell, World.size_drew] at hc1 hf1 hz1)) | (go_at_call 25; (with_reducible refine (fany_c _).mono ?_); rintro e w1 ⟨rfl, hb1⟩; obtain ⟨hc1, hf1, hz1⟩ := bcell hb1; (try simp only [World.size_alloc, World.size_setCell, World.size_drew] at hc1 hf1 hz1)))
  go_wp2_with fail
  refine (do_c' _ _ _ _ _ _).mono ?_
  rintro e wT ⟨rfl, hbwT⟩
  obtain ⟨hcwT, hfwT, hzwT⟩ := bcell hbwT
  (try simp only [World.size_alloc, World.size_setCell, World.size_drew] at hcwT hfwT hzwT)
  go_wp2_with (first | (go_at_call 25; (with_reducible refine (fany_c _).mono ?_); rintro e w1 ⟨rfl, hb1⟩; obtain ⟨hc1, hf1, hz1⟩ := bcell hb1; (try simp only [World.size_alloc, World.size_setCell, World.size_drew] at hc1 hf1 hz1)))
  refine wp_region_class_tail (MkC x y Fa.zero t w wT) 8 (by kernel_rfl) (by kernel_rfl) ?_ ?_
  · refine ⟨?_, ?_, ?_, ?_, ?_, ?_, ?_, ?_, ?_, ?_, ?_, ?_, ?_, ?_, ?_, (by repeat' (first | (with_reducible exact Below.refl _ _) | (with_reducible assumption) | (with_reducible refine Below.alloc ?_ ?_ _) | (with_reducible refine Below.setCell ?_ ?_ _) | (with_reducible refine Below.drew ?_) | (with_reducible refine below_dn ?_ _) | (with_reducible refine Below.trans ?_ (Below.mono (by assumption) ?_)) | go_size))⟩
    all_goals first | (intro i; simp [*, go_sem, ↓IntWalk.iteOmega]; done) | (simp [*, go_sem, ↓IntWalk.iteOmega]; done)
  clear hbwT hcwT hfwT hzwT
  intro hN
  (try simp only [List.append])
  simp only [List.take_succ_cons, List.take_zero, List.drop_succ_cons, List.drop_zero]
  repeat (first
    | go_big_quiet_skip
    | (go_big_quiet_want
       first
         | (refine quiet_load_Tn rfl rfl (fun w' hC => by obtain ⟨k0, k1, k2, k3, k4, k5, k6, k7, k8, k9, k10, k11, k12, k13, k14, k15⟩ := hC; first | exact ⟨k0, k1⟩ | exact ⟨k1, k2⟩ | exact ⟨k2, k3⟩ | exact ⟨k3, k4⟩ | exact ⟨k4, k5⟩ | exact ⟨k5, k6⟩ | exact ⟨k6, k7⟩ | exact ⟨k7, k8⟩ | exact ⟨k8, k9⟩ | exact ⟨k9, k10⟩ | exact ⟨k10, k11⟩ | exact ⟨k11, k12⟩ | exact ⟨k12, k13⟩) ?_
            simp only [Act.put, List.setIfInBounds_toArray, List.set_cons_succ, List.set_cons_zero]
            go_big_quiet_on)
         | (refine quiet_load_Sp rfl rfl (fun w' hC => by obtain ⟨k0, k1, k2, k3, k4, k5, k6, k7, k8, k9, k10, k11, k12, k13, k14, k15⟩ := hC; first | exact ⟨k0, k1⟩ | exact ⟨k1, k2⟩ | exact ⟨k2, k3⟩ | exact ⟨k3, k4⟩ | exact ⟨k4, k5⟩ | exact ⟨k5, k6⟩ | exact ⟨k6, k7⟩ | exact ⟨k7, k8⟩ | exact ⟨k8, k9⟩ | exact ⟨k9, k10⟩ | exact ⟨k10, k11⟩ | exact ⟨k11, k12⟩ | exact ⟨k12, k13⟩) ?_
            simp only [Act.put, List.setIfInBounds_toArray, List.set_cons_succ, List.set_cons_zero]
            go_big_quiet_on)
         | (refine quiet_load_Fa rfl rfl (fun w' hC => by obtain ⟨k0, k1, k2, k3, k4, k5, k6, k7, k8, k9, k10, k11, k12, k13, k14, k15⟩ := hC; first | exact ⟨k0, k1, k2, k3⟩ | exact ⟨k1, k2, k3, k4⟩ | exact ⟨k2, k3, k4, k5⟩ | exact ⟨k3, k4, k5, k6⟩ | exact ⟨k4, k5, k6, k7⟩ | exact ⟨k5, k6, k7, k8⟩ | exact ⟨k6, k7, k8, k9⟩ | exact ⟨k7, k8, k9, k10⟩ | exact ⟨k8, k9, k10, k11⟩ | exact ⟨k9, k10, k11, k12⟩ | exact ⟨k10, k11, k12, k13⟩) ?_
            simp only [Act.put, List.setIfInBounds_toArray, List.set_cons_succ, List.set_cons_zero]
            go_big_quiet_on)
         | (refine quiet_load_W rfl rfl (fun w' hC => by obtain ⟨k0, k1, k2, k3, k4, k5, k6, k7, k8, k9, k10, k11, k12, k13, k14, k15⟩ := hC; first | exact k0 | exact k1 | exact k2 | exact k3 | exact k4 | exact k5 | exact k6 | exact k7 | exact k8 | exact k9 | exact k10 | exact k11 | exact k12 | exact k13) ?_
            simp only [Act.put, List.setIfInBounds_toArray, List.set_cons_succ, List.set_cons_zero]
            go_big_quiet_on)
         | (go_big_quiet_op
            first
              | go_big_quiet_on
              | (apply Exists.intro
                 refine ⟨fun w' hC => ?_, ?_⟩
                 · (first | (go_at_call 87; (with_reducible refine (sdo_c' _ _ _ _ _ _).mono ?_); rintro e w1 ⟨rfl, hb1⟩) | (go_at_call 67; (with_reducible refine (fsettled_c' _ _ _ _ _).mono ?_); rintro e w1 ⟨rfl, hb1⟩))
                   (try simp only [Tn.eta, Sp.eta, Fa.eta])
                   exact ⟨rfl, by first | exact hC | exact MkC_keep _ _ hC hb1⟩
                 go_big_quiet_on))))
  refine wpQuiet_nil ?_
  intro w9 hC
  obtain ⟨k0, k1, k2, k3, k4, k5, k6, k7, k8, k9, k10, k11, k12, k13, k14, k15⟩ := hC
  have z0 := cell_lt k0
  have z4 := cell_lt k4
  have z8 := cell_lt k8
  have z12 := cell_lt k12
  go_wp2
  refine bodyPost_ret ?_ rfl ⟨rfl, (by repeat' (first | (with_reducible exact Below.refl _ _) | (with_reducible assumption) | (with_reducible refine Below.alloc ?_ ?_ _) | (with_reducible refine Below.setCell ?_ ?_ _) | (with_reducible refine Below.drew ?_) | (with_reducible refine below_dn ?_ _) | (with_reducible refine Below.trans ?_ (Below.mono (by assumption) ?_)) | go_size))⟩
  simp only [results, Try.results42]; simp [*, go_sem, ↓IntWalk.iteOmega]; try (first | rfl | exact ⟨rfl, rfl⟩)

set_option maxHeartbeats 1000000 in
theorem mk_xor_a0 (wd : Bool) (x y : Fa) (t : Tn) (hx : Fa.known x = none) (hd : Tn.do_ 160 x.t (y).t = none) (w : World) : Calls Try.prog 42 #[.int .u8 160, .bool wd, .int .i16 0, .agg #[.int .u64 (N x.t.v), .int .u64 (N x.t.m), .int .u64 (N x.s.lo), .int .u64 (N x.s.hi)], .agg #[.int .u64 (N y.t.v), .int .u64 (N y.t.m), .int .u64 (N y.s.lo), .int .u64 (N y.s.hi)]] w fun e w' => e = .returned (.agg #[.int .u64 (N (Fa.makes 160 wd 0 x y).t.v), .int .u64 (N (Fa.makes 160 wd 0 x y).t.m), .int .u64 (N (Fa.makes 160 wd 0 x y).s.lo), .int .u64 (N (Fa.makes 160 wd 0 x y).s.hi)]) ∧ Below w.heap.size w w' := by
  rw [Fa.mk_xor (.inl hx), Fa.plain_none hd]
  go_enter Try.func42, Try.ntmps42
  go_wp2_with (first | (go_at_call 20; (with_reducible refine (fknown_c' _ _ _ _ _).mono ?_); rintro e w1 ⟨rfl, hb1⟩; obtain ⟨hc1, hf1, hz1⟩ := bcell hb1; (try simp only [World.size_alloc, World.size_setCell, World.size_drew] at hc1 hf1 hz1)) | (go_at_call 85; (with_reducible refine (found_160 _).mono ?_); rintro e w1 ⟨rfl, rfl⟩) | (go_at_call 41; (with_reducible refine (ado_c _ _ _ _ _ _).mono ?_); rintro e w1 ⟨rfl, rfl⟩) | (go_at_call 17; (with_reducible refine (fof_c' _ _).mono ?_); rintro e w1 ⟨rfl, hb1⟩; obtain ⟨hc1, hf1, hz1⟩ := bcell hb1; (try simp only [World.size_alloc, World.size_setCell, World.size_drew] at hc1 hf1 hz1)) | (go_at_call 25; (with_reducible refine (fany_c _).mono ?_); rintro e w1 ⟨rfl, hb1⟩; obtain ⟨hc1, hf1, hz1⟩ := bcell hb1; (try simp only [World.size_alloc, World.size_setCell, World.size_drew] at hc1 hf1 hz1)))
  go_wp2_with fail
  refine (do_c' _ _ _ _ _ _).mono ?_
  rintro e wT ⟨rfl, hbwT⟩
  obtain ⟨hcwT, hfwT, hzwT⟩ := bcell hbwT
  (try simp only [World.size_alloc, World.size_setCell, World.size_drew] at hcwT hfwT hzwT)
  go_wp2_with (first | (go_at_call 25; (with_reducible refine (fany_c _).mono ?_); rintro e w1 ⟨rfl, hb1⟩; obtain ⟨hc1, hf1, hz1⟩ := bcell hb1; (try simp only [World.size_alloc, World.size_setCell, World.size_drew] at hc1 hf1 hz1)))
  refine wp_region_class_tail (MkC x y Fa.zero Fa.any.t w wT) 8 (by kernel_rfl) (by kernel_rfl) ?_ ?_
  · refine ⟨?_, ?_, ?_, ?_, ?_, ?_, ?_, ?_, ?_, ?_, ?_, ?_, ?_, ?_, ?_, (by repeat' (first | (with_reducible exact Below.refl _ _) | (with_reducible assumption) | (with_reducible refine Below.alloc ?_ ?_ _) | (with_reducible refine Below.setCell ?_ ?_ _) | (with_reducible refine Below.drew ?_) | (with_reducible refine below_dn ?_ _) | (with_reducible refine Below.trans ?_ (Below.mono (by assumption) ?_)) | go_size))⟩
    all_goals first | (intro i; simp [*, go_sem, ↓IntWalk.iteOmega]; done) | (simp [*, go_sem, ↓IntWalk.iteOmega]; done)
  clear hbwT hcwT hfwT hzwT
  intro hN
  (try simp only [List.append])
  simp only [List.take_succ_cons, List.take_zero, List.drop_succ_cons, List.drop_zero]
  repeat (first
    | go_big_quiet_skip
    | (go_big_quiet_want
       first
         | (refine quiet_load_Tn rfl rfl (fun w' hC => by obtain ⟨k0, k1, k2, k3, k4, k5, k6, k7, k8, k9, k10, k11, k12, k13, k14, k15⟩ := hC; first | exact ⟨k0, k1⟩ | exact ⟨k1, k2⟩ | exact ⟨k2, k3⟩ | exact ⟨k3, k4⟩ | exact ⟨k4, k5⟩ | exact ⟨k5, k6⟩ | exact ⟨k6, k7⟩ | exact ⟨k7, k8⟩ | exact ⟨k8, k9⟩ | exact ⟨k9, k10⟩ | exact ⟨k10, k11⟩ | exact ⟨k11, k12⟩ | exact ⟨k12, k13⟩) ?_
            simp only [Act.put, List.setIfInBounds_toArray, List.set_cons_succ, List.set_cons_zero]
            go_big_quiet_on)
         | (refine quiet_load_Sp rfl rfl (fun w' hC => by obtain ⟨k0, k1, k2, k3, k4, k5, k6, k7, k8, k9, k10, k11, k12, k13, k14, k15⟩ := hC; first | exact ⟨k0, k1⟩ | exact ⟨k1, k2⟩ | exact ⟨k2, k3⟩ | exact ⟨k3, k4⟩ | exact ⟨k4, k5⟩ | exact ⟨k5, k6⟩ | exact ⟨k6, k7⟩ | exact ⟨k7, k8⟩ | exact ⟨k8, k9⟩ | exact ⟨k9, k10⟩ | exact ⟨k10, k11⟩ | exact ⟨k11, k12⟩ | exact ⟨k12, k13⟩) ?_
            simp only [Act.put, List.setIfInBounds_toArray, List.set_cons_succ, List.set_cons_zero]
            go_big_quiet_on)
         | (refine quiet_load_Fa rfl rfl (fun w' hC => by obtain ⟨k0, k1, k2, k3, k4, k5, k6, k7, k8, k9, k10, k11, k12, k13, k14, k15⟩ := hC; first | exact ⟨k0, k1, k2, k3⟩ | exact ⟨k1, k2, k3, k4⟩ | exact ⟨k2, k3, k4, k5⟩ | exact ⟨k3, k4, k5, k6⟩ | exact ⟨k4, k5, k6, k7⟩ | exact ⟨k5, k6, k7, k8⟩ | exact ⟨k6, k7, k8, k9⟩ | exact ⟨k7, k8, k9, k10⟩ | exact ⟨k8, k9, k10, k11⟩ | exact ⟨k9, k10, k11, k12⟩ | exact ⟨k10, k11, k12, k13⟩) ?_
            simp only [Act.put, List.setIfInBounds_toArray, List.set_cons_succ, List.set_cons_zero]
            go_big_quiet_on)
         | (refine quiet_load_W rfl rfl (fun w' hC => by obtain ⟨k0, k1, k2, k3, k4, k5, k6, k7, k8, k9, k10, k11, k12, k13, k14, k15⟩ := hC; first | exact k0 | exact k1 | exact k2 | exact k3 | exact k4 | exact k5 | exact k6 | exact k7 | exact k8 | exact k9 | exact k10 | exact k11 | exact k12 | exact k13) ?_
            simp only [Act.put, List.setIfInBounds_toArray, List.set_cons_succ, List.set_cons_zero]
            go_big_quiet_on)
         | (go_big_quiet_op
            first
              | go_big_quiet_on
              | (apply Exists.intro
                 refine ⟨fun w' hC => ?_, ?_⟩
                 · (first | (go_at_call 87; (with_reducible refine (sdo_c' _ _ _ _ _ _).mono ?_); rintro e w1 ⟨rfl, hb1⟩) | (go_at_call 67; (with_reducible refine (fsettled_c' _ _ _ _ _).mono ?_); rintro e w1 ⟨rfl, hb1⟩))
                   (try simp only [Tn.eta, Sp.eta, Fa.eta])
                   exact ⟨rfl, by first | exact hC | exact MkC_keep _ _ hC hb1⟩
                 go_big_quiet_on))))
  refine wpQuiet_nil ?_
  intro w9 hC
  obtain ⟨k0, k1, k2, k3, k4, k5, k6, k7, k8, k9, k10, k11, k12, k13, k14, k15⟩ := hC
  have z0 := cell_lt k0
  have z4 := cell_lt k4
  have z8 := cell_lt k8
  have z12 := cell_lt k12
  go_wp2
  refine bodyPost_ret ?_ rfl ⟨rfl, (by repeat' (first | (with_reducible exact Below.refl _ _) | (with_reducible assumption) | (with_reducible refine Below.alloc ?_ ?_ _) | (with_reducible refine Below.setCell ?_ ?_ _) | (with_reducible refine Below.drew ?_) | (with_reducible refine below_dn ?_ _) | (with_reducible refine Below.trans ?_ (Below.mono (by assumption) ?_)) | go_size))⟩
  simp only [results, Try.results42]; simp [*, go_sem, ↓IntWalk.iteOmega]; try (first | rfl | exact ⟨rfl, rfl⟩)

set_option maxHeartbeats 1000000 in
theorem mk_xor_a1 (wd : Bool) (x y : Fa) (t : Tn) (hx : Fa.known x = none) (hd : Tn.do_ 160 x.t (y).t = some t) (w : World) : Calls Try.prog 42 #[.int .u8 160, .bool wd, .int .i16 0, .agg #[.int .u64 (N x.t.v), .int .u64 (N x.t.m), .int .u64 (N x.s.lo), .int .u64 (N x.s.hi)], .agg #[.int .u64 (N y.t.v), .int .u64 (N y.t.m), .int .u64 (N y.s.lo), .int .u64 (N y.s.hi)]] w fun e w' => e = .returned (.agg #[.int .u64 (N (Fa.makes 160 wd 0 x y).t.v), .int .u64 (N (Fa.makes 160 wd 0 x y).t.m), .int .u64 (N (Fa.makes 160 wd 0 x y).s.lo), .int .u64 (N (Fa.makes 160 wd 0 x y).s.hi)]) ∧ Below w.heap.size w w' := by
  rw [Fa.mk_xor (.inl hx), Fa.plain_some hd]
  go_enter Try.func42, Try.ntmps42
  go_wp2_with (first | (go_at_call 20; (with_reducible refine (fknown_c' _ _ _ _ _).mono ?_); rintro e w1 ⟨rfl, hb1⟩; obtain ⟨hc1, hf1, hz1⟩ := bcell hb1; (try simp only [World.size_alloc, World.size_setCell, World.size_drew] at hc1 hf1 hz1)) | (go_at_call 85; (with_reducible refine (found_160 _).mono ?_); rintro e w1 ⟨rfl, rfl⟩) | (go_at_call 41; (with_reducible refine (ado_c _ _ _ _ _ _).mono ?_); rintro e w1 ⟨rfl, rfl⟩) | (go_at_call 17; (with_reducible refine (fof_c' _ _).mono ?_); rintro e w1 ⟨rfl, hb1⟩; obtain ⟨hc1, hf1, hz1⟩ := bcell hb1; (try simp only [World.size_alloc, World.size_setCell, World.size_drew] at hc1 hf1 hz1)) | (go_at_call 25; (with_reducible refine (fany_c _).mono ?_); rintro e w1 ⟨rfl, hb1⟩; obtain ⟨hc1, hf1, hz1⟩ := bcell hb1; (try simp only [World.size_alloc, World.size_setCell, World.size_drew] at hc1 hf1 hz1)))
  go_wp2_with fail
  refine (do_c' _ _ _ _ _ _).mono ?_
  rintro e wT ⟨rfl, hbwT⟩
  obtain ⟨hcwT, hfwT, hzwT⟩ := bcell hbwT
  (try simp only [World.size_alloc, World.size_setCell, World.size_drew] at hcwT hfwT hzwT)
  go_wp2_with (first | (go_at_call 25; (with_reducible refine (fany_c _).mono ?_); rintro e w1 ⟨rfl, hb1⟩; obtain ⟨hc1, hf1, hz1⟩ := bcell hb1; (try simp only [World.size_alloc, World.size_setCell, World.size_drew] at hc1 hf1 hz1)))
  refine wp_region_class_tail (MkC x y Fa.zero t w wT) 8 (by kernel_rfl) (by kernel_rfl) ?_ ?_
  · refine ⟨?_, ?_, ?_, ?_, ?_, ?_, ?_, ?_, ?_, ?_, ?_, ?_, ?_, ?_, ?_, (by repeat' (first | (with_reducible exact Below.refl _ _) | (with_reducible assumption) | (with_reducible refine Below.alloc ?_ ?_ _) | (with_reducible refine Below.setCell ?_ ?_ _) | (with_reducible refine Below.drew ?_) | (with_reducible refine below_dn ?_ _) | (with_reducible refine Below.trans ?_ (Below.mono (by assumption) ?_)) | go_size))⟩
    all_goals first | (intro i; simp [*, go_sem, ↓IntWalk.iteOmega]; done) | (simp [*, go_sem, ↓IntWalk.iteOmega]; done)
  clear hbwT hcwT hfwT hzwT
  intro hN
  (try simp only [List.append])
  simp only [List.take_succ_cons, List.take_zero, List.drop_succ_cons, List.drop_zero]
  repeat (first
    | go_big_quiet_skip
    | (go_big_quiet_want
       first
         | (refine quiet_load_Tn rfl rfl (fun w' hC => by obtain ⟨k0, k1, k2, k3, k4, k5, k6, k7, k8, k9, k10, k11, k12, k13, k14, k15⟩ := hC; first | exact ⟨k0, k1⟩ | exact ⟨k1, k2⟩ | exact ⟨k2, k3⟩ | exact ⟨k3, k4⟩ | exact ⟨k4, k5⟩ | exact ⟨k5, k6⟩ | exact ⟨k6, k7⟩ | exact ⟨k7, k8⟩ | exact ⟨k8, k9⟩ | exact ⟨k9, k10⟩ | exact ⟨k10, k11⟩ | exact ⟨k11, k12⟩ | exact ⟨k12, k13⟩) ?_
            simp only [Act.put, List.setIfInBounds_toArray, List.set_cons_succ, List.set_cons_zero]
            go_big_quiet_on)
         | (refine quiet_load_Sp rfl rfl (fun w' hC => by obtain ⟨k0, k1, k2, k3, k4, k5, k6, k7, k8, k9, k10, k11, k12, k13, k14, k15⟩ := hC; first | exact ⟨k0, k1⟩ | exact ⟨k1, k2⟩ | exact ⟨k2, k3⟩ | exact ⟨k3, k4⟩ | exact ⟨k4, k5⟩ | exact ⟨k5, k6⟩ | exact ⟨k6, k7⟩ | exact ⟨k7, k8⟩ | exact ⟨k8, k9⟩ | exact ⟨k9, k10⟩ | exact ⟨k10, k11⟩ | exact ⟨k11, k12⟩ | exact ⟨k12, k13⟩) ?_
            simp only [Act.put, List.setIfInBounds_toArray, List.set_cons_succ, List.set_cons_zero]
            go_big_quiet_on)
         | (refine quiet_load_Fa rfl rfl (fun w' hC => by obtain ⟨k0, k1, k2, k3, k4, k5, k6, k7, k8, k9, k10, k11, k12, k13, k14, k15⟩ := hC; first | exact ⟨k0, k1, k2, k3⟩ | exact ⟨k1, k2, k3, k4⟩ | exact ⟨k2, k3, k4, k5⟩ | exact ⟨k3, k4, k5, k6⟩ | exact ⟨k4, k5, k6, k7⟩ | exact ⟨k5, k6, k7, k8⟩ | exact ⟨k6, k7, k8, k9⟩ | exact ⟨k7, k8, k9, k10⟩ | exact ⟨k8, k9, k10, k11⟩ | exact ⟨k9, k10, k11, k12⟩ | exact ⟨k10, k11, k12, k13⟩) ?_
            simp only [Act.put, List.setIfInBounds_toArray, List.set_cons_succ, List.set_cons_zero]
            go_big_quiet_on)
         | (refine quiet_load_W rfl rfl (fun w' hC => by obtain ⟨k0, k1, k2, k3, k4, k5, k6, k7, k8, k9, k10, k11, k12, k13, k14, k15⟩ := hC; first | exact k0 | exact k1 | exact k2 | exact k3 | exact k4 | exact k5 | exact k6 | exact k7 | exact k8 | exact k9 | exact k10 | exact k11 | exact k12 | exact k13) ?_
            simp only [Act.put, List.setIfInBounds_toArray, List.set_cons_succ, List.set_cons_zero]
            go_big_quiet_on)
         | (go_big_quiet_op
            first
              | go_big_quiet_on
              | (apply Exists.intro
                 refine ⟨fun w' hC => ?_, ?_⟩
                 · (first | (go_at_call 87; (with_reducible refine (sdo_c' _ _ _ _ _ _).mono ?_); rintro e w1 ⟨rfl, hb1⟩) | (go_at_call 67; (with_reducible refine (fsettled_c' _ _ _ _ _).mono ?_); rintro e w1 ⟨rfl, hb1⟩))
                   (try simp only [Tn.eta, Sp.eta, Fa.eta])
                   exact ⟨rfl, by first | exact hC | exact MkC_keep _ _ hC hb1⟩
                 go_big_quiet_on))))
  refine wpQuiet_nil ?_
  intro w9 hC
  obtain ⟨k0, k1, k2, k3, k4, k5, k6, k7, k8, k9, k10, k11, k12, k13, k14, k15⟩ := hC
  have z0 := cell_lt k0
  have z4 := cell_lt k4
  have z8 := cell_lt k8
  have z12 := cell_lt k12
  go_wp2
  refine bodyPost_ret ?_ rfl ⟨rfl, (by repeat' (first | (with_reducible exact Below.refl _ _) | (with_reducible assumption) | (with_reducible refine Below.alloc ?_ ?_ _) | (with_reducible refine Below.setCell ?_ ?_ _) | (with_reducible refine Below.drew ?_) | (with_reducible refine below_dn ?_ _) | (with_reducible refine Below.trans ?_ (Below.mono (by assumption) ?_)) | go_size))⟩
  simp only [results, Try.results42]; simp [*, go_sem, ↓IntWalk.iteOmega]; try (first | rfl | exact ⟨rfl, rfl⟩)

end Hk
