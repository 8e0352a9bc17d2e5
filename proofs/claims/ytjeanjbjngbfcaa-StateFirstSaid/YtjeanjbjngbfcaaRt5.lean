/- The reference of states: slot, Within; old memory is as it was. No condition but those in each statement. -/
import Derived.Test.YtjeanjbjngbfcaaProg
import Derived.Test.YtjeanjbjngbfcaaGp
import Derived.Test.YtjeanjbjngbfcaaSt1
import Derived.Test.YtjeanjbjngbfcaaSt2
import Derived.Test.YtjeanjbjngbfcaaSt3
import Derived.Test.YtjeanjbjngbfcaaRt1
import Derived.Test.YtjeanjbjngbfcaaVl5
import Derived.Test.YtjeanjbjngbfcaaVl12
import Derived.Test.YtjeanjbjngbfcaaGl
import Derived.Test.YtjeanjbjngbfcaaStk
import Derived.Test.YtjeanjbjngbfcaaLds
namespace Hk
open Go Go.RowKit Go.Proofs
set_option linter.unusedSimpArgs false
set_option linter.unusedVariables false
set_option maxRecDepth 100000
attribute [go_sem] Tn.eta Sp.eta Fa.eta Vl.eta
theorem rtslot_1 (x y : Sl) (yb1 : (y.v.k == 0) = true) (yb2 : (y.v.k != 0) = false) (w : World) : Calls Try.prog 41 #[.agg #[.int .u8 x.v.k, .int .u64 (N x.v.f.t.v), .int .u64 (N x.v.f.t.m), .int .u64 (N x.v.f.s.lo), .int .u64 (N x.v.f.s.hi), .int .i64 x.v.i, .int .i64 x.v.off, .int .u8 (N8 x.p)], .agg #[.int .u8 y.v.k, .int .u64 (N y.v.f.t.v), .int .u64 (N y.v.f.t.m), .int .u64 (N y.v.f.s.lo), .int .u64 (N y.v.f.s.hi), .int .i64 y.v.i, .int .i64 y.v.off, .int .u8 (N8 y.p)]] w fun e w' => e = .returned (.bool ((y.p &&& ~~~x.p == 0#8))) ∧ Below w.heap.size w w' := by
  go_enter Try.func41, Try.ntmps41
  go_wp2_with (first | (go_at_call 40; (with_reducible refine (rvwithin_c' _ _ _ _ _ _ _ _ _ _ _ _ _ _ _).mono ?_); rintro e w1 ⟨rfl, hb1⟩; obtain ⟨hc1, hf1, hz1⟩ := bcell hb1; have hk1 := bblk hb1; (try simp only [World.size_alloc, World.size_setCell, World.size_drew, setRow_size] at hc1 hf1 hz1 hk1)))
  go_ret
  exact ⟨rfl, (by repeat' (first | (with_reducible exact Below.refl _ _) | (with_reducible assumption) | (with_reducible refine Below.alloc ?_ ?_ _) | (with_reducible refine Below.setCell ?_ ?_ _) | (with_reducible refine below_setRow ?_ ?_) | (with_reducible refine Below.drew ?_) | (with_reducible refine below_dn ?_ _) | (with_reducible refine Below.trans ?_ (Below.mono (by assumption) ?_)) | go_size))⟩

theorem rtslot_2 (x y : Sl) (yb1 : (y.v.k == 0) = false) (yb2 : (y.v.k != 0) = true)(xb1 : (x.v.k == 0) = true) (xb2 : (x.v.k != 0) = false) (w : World) : Calls Try.prog 41 #[.agg #[.int .u8 x.v.k, .int .u64 (N x.v.f.t.v), .int .u64 (N x.v.f.t.m), .int .u64 (N x.v.f.s.lo), .int .u64 (N x.v.f.s.hi), .int .i64 x.v.i, .int .i64 x.v.off, .int .u8 (N8 x.p)], .agg #[.int .u8 y.v.k, .int .u64 (N y.v.f.t.v), .int .u64 (N y.v.f.t.m), .int .u64 (N y.v.f.s.lo), .int .u64 (N y.v.f.s.hi), .int .i64 y.v.i, .int .i64 y.v.off, .int .u8 (N8 y.p)]] w fun e w' => e = .returned (.bool false) ∧ Below w.heap.size w w' := by
  go_enter Try.func41, Try.ntmps41
  go_wp2_with (first | (go_at_call 40; (with_reducible refine (rvwithin_c' _ _ _ _ _ _ _ _ _ _ _ _ _ _ _).mono ?_); rintro e w1 ⟨rfl, hb1⟩; obtain ⟨hc1, hf1, hz1⟩ := bcell hb1; have hk1 := bblk hb1; (try simp only [World.size_alloc, World.size_setCell, World.size_drew, setRow_size] at hc1 hf1 hz1 hk1)))
  go_ret
  exact ⟨rfl, (by repeat' (first | (with_reducible exact Below.refl _ _) | (with_reducible assumption) | (with_reducible refine Below.alloc ?_ ?_ _) | (with_reducible refine Below.setCell ?_ ?_ _) | (with_reducible refine below_setRow ?_ ?_) | (with_reducible refine Below.drew ?_) | (with_reducible refine below_dn ?_ _) | (with_reducible refine Below.trans ?_ (Below.mono (by assumption) ?_)) | go_size))⟩

theorem rtslot_3 (x y : Sl) (yb1 : (y.v.k == 0) = false) (yb2 : (y.v.k != 0) = true)(xb1 : (x.v.k == 0) = false) (xb2 : (x.v.k != 0) = true) (w : World) : Calls Try.prog 41 #[.agg #[.int .u8 x.v.k, .int .u64 (N x.v.f.t.v), .int .u64 (N x.v.f.t.m), .int .u64 (N x.v.f.s.lo), .int .u64 (N x.v.f.s.hi), .int .i64 x.v.i, .int .i64 x.v.off, .int .u8 (N8 x.p)], .agg #[.int .u8 y.v.k, .int .u64 (N y.v.f.t.v), .int .u64 (N y.v.f.t.m), .int .u64 (N y.v.f.s.lo), .int .u64 (N y.v.f.s.hi), .int .i64 y.v.i, .int .i64 y.v.off, .int .u8 (N8 y.p)]] w fun e w' => e = .returned (.bool ((Vl.within x.v y.v))) ∧ Below w.heap.size w w' := by
  go_enter Try.func41, Try.ntmps41
  go_wp2_with (first | (go_at_call 40; (with_reducible refine (rvwithin_c' _ _ _ _ _ _ _ _ _ _ _ _ _ _ _).mono ?_); rintro e w1 ⟨rfl, hb1⟩; obtain ⟨hc1, hf1, hz1⟩ := bcell hb1; have hk1 := bblk hb1; (try simp only [World.size_alloc, World.size_setCell, World.size_drew, setRow_size] at hc1 hf1 hz1 hk1)))
  go_ret
  exact ⟨rfl, (by repeat' (first | (with_reducible exact Below.refl _ _) | (with_reducible assumption) | (with_reducible refine Below.alloc ?_ ?_ _) | (with_reducible refine Below.setCell ?_ ?_ _) | (with_reducible refine below_setRow ?_ ?_) | (with_reducible refine Below.drew ?_) | (with_reducible refine below_dn ?_ _) | (with_reducible refine Below.trans ?_ (Below.mono (by assumption) ?_)) | go_size))⟩

theorem rtslot_c (x y : Sl) (w : World) : Calls Try.prog 41 #[.agg #[.int .u8 x.v.k, .int .u64 (N x.v.f.t.v), .int .u64 (N x.v.f.t.m), .int .u64 (N x.v.f.s.lo), .int .u64 (N x.v.f.s.hi), .int .i64 x.v.i, .int .i64 x.v.off, .int .u8 (N8 x.p)], .agg #[.int .u8 y.v.k, .int .u64 (N y.v.f.t.v), .int .u64 (N y.v.f.t.m), .int .u64 (N y.v.f.s.lo), .int .u64 (N y.v.f.s.hi), .int .i64 y.v.i, .int .i64 y.v.off, .int .u8 (N8 y.p)]] w fun e w' => e = .returned (.bool ((St.slotIn x y))) ∧ Below w.heap.size w w' := by
  unfold St.slotIn
  by_cases hy : y.v.k = 0
  · rw [if_pos hy]; exact rtslot_1 x y (by simp [hy]) (by simp [hy]) w
  rw [if_neg hy]
  by_cases hx : x.v.k = 0
  · rw [show (!decide (x.v.k = 0) && Vl.within x.v y.v) = false by simp [hx]]; exact rtslot_2 x y (by simp [hy]) (by simp [hy]) (by simp [hx]) (by simp [hx]) w
  · rw [show (!decide (x.v.k = 0) && Vl.within x.v y.v) = Vl.within x.v y.v by simp [hx]]; exact rtslot_3 x y (by simp [hy]) (by simp [hy]) (by simp [hx]) (by simp [hx]) w

theorem rtslot_c' (k0 : Int) (a0 b0 c0 d0 : BitVec 64) (m0 o0 : Int) (p0 : BitVec 8) (k1 : Int) (a1 b1 c1 d1 : BitVec 64) (m1 o1 : Int) (p1 : BitVec 8) (w : World) : Calls Try.prog 41 #[.agg #[.int .u8 k0, .int .u64 (N a0), .int .u64 (N b0), .int .u64 (N c0), .int .u64 (N d0), .int .i64 m0, .int .i64 o0, .int .u8 (N8 p0)], .agg #[.int .u8 k1, .int .u64 (N a1), .int .u64 (N b1), .int .u64 (N c1), .int .u64 (N d1), .int .i64 m1, .int .i64 o1, .int .u8 (N8 p1)]] w fun e w' => e = .returned (.bool ((St.slotIn (⟨⟨k0, ⟨⟨a0, b0⟩, ⟨c0, d0⟩⟩, m0, o0⟩, p0⟩ : Sl) (⟨⟨k1, ⟨⟨a1, b1⟩, ⟨c1, d1⟩⟩, m1, o1⟩, p1⟩ : Sl)))) ∧ Below w.heap.size w w' := by
  exact rtslot_c (⟨⟨k0, ⟨⟨a0, b0⟩, ⟨c0, d0⟩⟩, m0, o0⟩, p0⟩ : Sl) (⟨⟨k1, ⟨⟨a1, b1⟩, ⟨c1, d1⟩⟩, m1, o1⟩, p1⟩ : Sl) w

theorem Sl.eta (x : Sl) : Sl.mk x.v x.p = x := rfl
def RWithinC (p q k : Nat) (x y : Vl) (w : World) (w' : World) : Prop := w'.cell? ⟨p, k * 7, none⟩ = some (.int .u8 x.k) ∧ w'.cell? ⟨p, k * 7 + 1, none⟩ = some (.int .u64 (N x.f.t.v)) ∧ w'.cell? ⟨p, k * 7 + 2, none⟩ = some (.int .u64 (N x.f.t.m)) ∧ w'.cell? ⟨p, k * 7 + 3, none⟩ = some (.int .u64 (N x.f.s.lo)) ∧ w'.cell? ⟨p, k * 7 + 4, none⟩ = some (.int .u64 (N x.f.s.hi)) ∧ w'.cell? ⟨p, k * 7 + 5, none⟩ = some (.int .i64 x.i) ∧ w'.cell? ⟨p, k * 7 + 6, none⟩ = some (.int .i64 x.off) ∧ w'.cell? ⟨q, k * 7, none⟩ = some (.int .u8 y.k) ∧ w'.cell? ⟨q, k * 7 + 1, none⟩ = some (.int .u64 (N y.f.t.v)) ∧ w'.cell? ⟨q, k * 7 + 2, none⟩ = some (.int .u64 (N y.f.t.m)) ∧ w'.cell? ⟨q, k * 7 + 3, none⟩ = some (.int .u64 (N y.f.s.lo)) ∧ w'.cell? ⟨q, k * 7 + 4, none⟩ = some (.int .u64 (N y.f.s.hi)) ∧ w'.cell? ⟨q, k * 7 + 5, none⟩ = some (.int .i64 y.i) ∧ w'.cell? ⟨q, k * 7 + 6, none⟩ = some (.int .i64 y.off) ∧ Below w.heap.size w w'
theorem RWithinC_keep {p q k : Nat} {x y : Vl} {w : World} (w' w1 : World) (h : RWithinC p q k x y w w') (hb : Below w'.heap.size w' w1) : RWithinC p q k x y w w1 := by
  obtain ⟨k0, k1, k2, k3, k4, k5, k6, k7, k8, k9, k10, k11, k12, k13, k14⟩ := h
  exact ⟨cell_keep hb k0, cell_keep hb k1, cell_keep hb k2, cell_keep hb k3, cell_keep hb k4, cell_keep hb k5, cell_keep hb k6, cell_keep hb k7, cell_keep hb k8, cell_keep hb k9, cell_keep hb k10, cell_keep hb k11, cell_keep hb k12, cell_keep hb k13, below_next k14 hb⟩

def RWithinD (p q k : Nat) (x y : Sl) (w : World) (w' : World) : Prop := w'.cell? ⟨p, 77 + k * 8, none⟩ = some (.int .u8 x.v.k) ∧ w'.cell? ⟨p, 77 + k * 8 + 1, none⟩ = some (.int .u64 (N x.v.f.t.v)) ∧ w'.cell? ⟨p, 77 + k * 8 + 2, none⟩ = some (.int .u64 (N x.v.f.t.m)) ∧ w'.cell? ⟨p, 77 + k * 8 + 3, none⟩ = some (.int .u64 (N x.v.f.s.lo)) ∧ w'.cell? ⟨p, 77 + k * 8 + 4, none⟩ = some (.int .u64 (N x.v.f.s.hi)) ∧ w'.cell? ⟨p, 77 + k * 8 + 5, none⟩ = some (.int .i64 x.v.i) ∧ w'.cell? ⟨p, 77 + k * 8 + 6, none⟩ = some (.int .i64 x.v.off) ∧ w'.cell? ⟨p, 77 + k * 8 + 7, none⟩ = some (.int .u8 (N8 x.p)) ∧ w'.cell? ⟨q, 77 + k * 8, none⟩ = some (.int .u8 y.v.k) ∧ w'.cell? ⟨q, 77 + k * 8 + 1, none⟩ = some (.int .u64 (N y.v.f.t.v)) ∧ w'.cell? ⟨q, 77 + k * 8 + 2, none⟩ = some (.int .u64 (N y.v.f.t.m)) ∧ w'.cell? ⟨q, 77 + k * 8 + 3, none⟩ = some (.int .u64 (N y.v.f.s.lo)) ∧ w'.cell? ⟨q, 77 + k * 8 + 4, none⟩ = some (.int .u64 (N y.v.f.s.hi)) ∧ w'.cell? ⟨q, 77 + k * 8 + 5, none⟩ = some (.int .i64 y.v.i) ∧ w'.cell? ⟨q, 77 + k * 8 + 6, none⟩ = some (.int .i64 y.v.off) ∧ w'.cell? ⟨q, 77 + k * 8 + 7, none⟩ = some (.int .u8 (N8 y.p)) ∧ Below w.heap.size w w'
theorem RWithinD_keep {p q k : Nat} {x y : Sl} {w : World} (w' w1 : World) (h : RWithinD p q k x y w w') (hb : Below w'.heap.size w' w1) : RWithinD p q k x y w w1 := by
  obtain ⟨k0, k1, k2, k3, k4, k5, k6, k7, k8, k9, k10, k11, k12, k13, k14, k15, k16⟩ := h
  exact ⟨cell_keep hb k0, cell_keep hb k1, cell_keep hb k2, cell_keep hb k3, cell_keep hb k4, cell_keep hb k5, cell_keep hb k6, cell_keep hb k7, cell_keep hb k8, cell_keep hb k9, cell_keep hb k10, cell_keep hb k11, cell_keep hb k12, cell_keep hb k13, cell_keep hb k14, cell_keep hb k15, below_next k16 hb⟩

set_option maxHeartbeats 1000000 in
theorem rtwithin_n1 (a b : St) (ha : a.right = false) (w : World) : Calls Try.prog 26 #[.agg (St.cells a), .agg (St.cells b)] w fun e w' => e = .returned (.bool (a.within b)) ∧ Below w.heap.size w w' := by
  have E : a.within b = false := by unfold St.within; simp [*]
  rw [E]; clear E
  go_enter Try.func26, Try.ntmps26
  go_wp2_with (first | (go_at_call 24; (with_reducible refine (rtright_c _ _).mono ?_); rintro e w1 ⟨rfl, hb1⟩; obtain ⟨hc1, hf1, hz1⟩ := bcell hb1; have hk1 := bblk hb1; (try simp only [World.size_alloc, World.size_setCell, World.size_drew, setRow_size] at hc1 hf1 hz1 hk1)))
  go_ret
  exact ⟨rfl, (by repeat' (first | (with_reducible exact Below.refl _ _) | (with_reducible assumption) | (with_reducible refine Below.alloc ?_ ?_ _) | (with_reducible refine Below.setCell ?_ ?_ _) | (with_reducible refine below_setRow ?_ ?_) | (with_reducible refine Below.drew ?_) | (with_reducible refine below_dn ?_ _) | (with_reducible refine Below.trans ?_ (Below.mono (by assumption) ?_)) | go_size))⟩

set_option maxHeartbeats 1000000 in
theorem rtwithin_n2 (a b : St) (ha : a.right = true) (hb : b.right = false) (w : World) : Calls Try.prog 26 #[.agg (St.cells a), .agg (St.cells b)] w fun e w' => e = .returned (.bool (a.within b)) ∧ Below w.heap.size w w' := by
  have E : a.within b = false := by unfold St.within; simp [*]
  rw [E]; clear E
  go_enter Try.func26, Try.ntmps26
  go_wp2_with (first | (go_at_call 24; (with_reducible refine (rtright_c _ _).mono ?_); rintro e w1 ⟨rfl, hb1⟩; obtain ⟨hc1, hf1, hz1⟩ := bcell hb1; have hk1 := bblk hb1; (try simp only [World.size_alloc, World.size_setCell, World.size_drew, setRow_size] at hc1 hf1 hz1 hk1)))
  go_ret
  exact ⟨rfl, (by repeat' (first | (with_reducible exact Below.refl _ _) | (with_reducible assumption) | (with_reducible refine Below.alloc ?_ ?_ _) | (with_reducible refine Below.setCell ?_ ?_ _) | (with_reducible refine below_setRow ?_ ?_) | (with_reducible refine Below.drew ?_) | (with_reducible refine below_dn ?_ _) | (with_reducible refine Below.trans ?_ (Below.mono (by assumption) ?_)) | go_size))⟩

set_option maxHeartbeats 8000000 in
theorem rtwithin_y (a b : St) (ha : a.right = true) (hb : b.right = true) (w : World) : Calls Try.prog 26 #[.agg (St.cells a), .agg (St.cells b)] w fun e w' => e = .returned (.bool (a.within b)) ∧ Below w.heap.size w w' := by
  go_enter Try.func26, Try.ntmps26
  go_wp2_with (first | (go_at_call 24; (with_reducible refine (rtright_c _ _).mono ?_); rintro e w1 ⟨rfl, hb1⟩; obtain ⟨hc1, hf1, hz1⟩ := bcell hb1; have hk1 := bblk hb1; (try simp only [World.size_alloc, World.size_setCell, World.size_drew, setRow_size] at hc1 hf1 hz1 hk1)))
  have HB : Below (w.heap.size + 1 + 1) ((w.alloc (.cells a.cells 38)).alloc (.cells b.cells 38)) w1 := (by repeat' (first | (with_reducible exact Below.refl _ _) | (with_reducible assumption) | (with_reducible refine Below.alloc ?_ ?_ _) | (with_reducible refine Below.setCell ?_ ?_ _) | (with_reducible refine below_setRow ?_ ?_) | (with_reducible refine Below.drew ?_) | (with_reducible refine below_dn ?_ _) | (with_reducible refine Below.trans ?_ (Below.mono (by assumption) ?_)) | go_size))
  clear hb1 hc1 hf1 hz1 hk1
  go_loopw [5] (fun c wr => ∃ k : Nat, k ≤ 11 ∧ c = .int .i64 (k : Int) ∧ Hid (a.inR b k = true) ∧ Below (w.heap.size + 1 + 1) ((w.alloc (.cells a.cells 38)).alloc (.cells b.cells 38)) wr) (fun c _ => 11 - (intOf c).toNat)
  case atStart => exact ⟨0, by omega, rfl, Lib.hid (a.inR_zero b), HB⟩
  case round =>
    obtain ⟨k, hk, rfl, hup, hB⟩ := hrel
    have hB' : Below ((w.alloc (.cells a.cells 38)).alloc (.cells b.cells 38)).heap.size ((w.alloc (.cells a.cells 38)).alloc (.cells b.cells 38)) wr := by simpa using hB
    obtain ⟨hcB, hfB, hzB⟩ := bcell hB'
    have hkB := bblk hB'
    (try simp only [World.size_alloc] at hcB hfB hzB hkB)
    clear hB'
    by_cases hlt : k < 11
    · cases hq : Vl.within (a.r k) (b.r k)
      · go_wp2_with fail
        refine wp_region_class (RWithinC w.heap.size (w.heap.size + 1) k (a.r k) (b.r k) wr) (by kernel_rfl) (by kernel_rfl) ?_ ?_
        · refine ⟨?_, ?_, ?_, ?_, ?_, ?_, ?_, ?_, ?_, ?_, ?_, ?_, ?_, ?_, (by repeat' (first | (with_reducible exact Below.refl _ _) | (with_reducible assumption) | (with_reducible refine Below.alloc ?_ ?_ _) | (with_reducible refine Below.setCell ?_ ?_ _) | (with_reducible refine Below.drew ?_) | (with_reducible refine below_dn ?_ _) | (with_reducible refine Below.trans ?_ (Below.mono (by assumption) ?_)) | go_size))⟩
          all_goals first | (intro i; simp [*, go_sem, ↓IntWalk.iteOmega]; done) | (simp [*, go_sem, ↓IntWalk.iteOmega]; done)
        intro hN
        (try simp only [List.append])
        repeat (first
          | go_big_quiet_skip
          | (go_big_quiet_want
             first
               | ((first | (refine quiet_load_Val rfl rfl (fun w' hC => by obtain ⟨k0, k1, k2, k3, k4, k5, k6, k7, k8, k9, k10, k11, k12, k13, k14⟩ := hC; exact ⟨by assumption, by assumption, by assumption, by assumption, by assumption, by assumption, by assumption⟩) ?_) | (refine quiet_load_W rfl rfl (fun w' hC => by obtain ⟨k0, k1, k2, k3, k4, k5, k6, k7, k8, k9, k10, k11, k12, k13, k14⟩ := hC; assumption) ?_))
                  simp only [Act.put, List.setIfInBounds_toArray, List.set_cons_succ, List.set_cons_zero]
                  go_big_quiet_on)
               | (go_big_quiet_op
                  first
                    | go_big_quiet_on
                    | (apply Exists.intro
                       refine ⟨fun w' hC => ?_, ?_⟩
                       · (first | (go_at_call 40; (with_reducible refine (rvwithin_c' _ _ _ _ _ _ _ _ _ _ _ _ _ _ _).mono ?_); rintro e w1 ⟨rfl, hb1⟩))
                         (try simp only [Vl.eta, Tn.eta, Sp.eta, Fa.eta, hq])
                         exact ⟨rfl, by first | exact hC | exact RWithinC_keep _ _ hC hb1⟩
                       go_big_quiet_on))))
        refine wpQuiet_nil ?_
        intro w9 hC
        obtain ⟨k0, k1, k2, k3, k4, k5, k6, k7, k8, k9, k10, k11, k12, k13, k14⟩ := hC
        obtain ⟨hc9, hf9, hz9⟩ := bcell k14
        have hk9 := bblk k14
        go_wp2
        go_ret
        exact ⟨Eq.trans (b := Ending.returned (.bool false)) rfl (by rw [St.within_noR hlt hq]), (by repeat' (first | (with_reducible exact Below.refl _ _) | (with_reducible assumption) | (with_reducible refine Below.alloc ?_ ?_ _) | (with_reducible refine Below.setCell ?_ ?_ _) | (with_reducible refine below_setRow ?_ ?_) | (with_reducible refine Below.drew ?_) | (with_reducible refine below_dn ?_ _) | (with_reducible refine Below.trans ?_ (Below.mono (by assumption) ?_)) | go_size))⟩
      · go_wp2_with fail
        refine wp_region_class (RWithinC w.heap.size (w.heap.size + 1) k (a.r k) (b.r k) wr) (by kernel_rfl) (by kernel_rfl) ?_ ?_
        · refine ⟨?_, ?_, ?_, ?_, ?_, ?_, ?_, ?_, ?_, ?_, ?_, ?_, ?_, ?_, (by repeat' (first | (with_reducible exact Below.refl _ _) | (with_reducible assumption) | (with_reducible refine Below.alloc ?_ ?_ _) | (with_reducible refine Below.setCell ?_ ?_ _) | (with_reducible refine Below.drew ?_) | (with_reducible refine below_dn ?_ _) | (with_reducible refine Below.trans ?_ (Below.mono (by assumption) ?_)) | go_size))⟩
          all_goals first | (intro i; simp [*, go_sem, ↓IntWalk.iteOmega]; done) | (simp [*, go_sem, ↓IntWalk.iteOmega]; done)
        intro hN
        (try simp only [List.append])
        repeat (first
          | go_big_quiet_skip
          | (go_big_quiet_want
             first
               | ((first | (refine quiet_load_Val rfl rfl (fun w' hC => by obtain ⟨k0, k1, k2, k3, k4, k5, k6, k7, k8, k9, k10, k11, k12, k13, k14⟩ := hC; exact ⟨by assumption, by assumption, by assumption, by assumption, by assumption, by assumption, by assumption⟩) ?_) | (refine quiet_load_W rfl rfl (fun w' hC => by obtain ⟨k0, k1, k2, k3, k4, k5, k6, k7, k8, k9, k10, k11, k12, k13, k14⟩ := hC; assumption) ?_))
                  simp only [Act.put, List.setIfInBounds_toArray, List.set_cons_succ, List.set_cons_zero]
                  go_big_quiet_on)
               | (go_big_quiet_op
                  first
                    | go_big_quiet_on
                    | (apply Exists.intro
                       refine ⟨fun w' hC => ?_, ?_⟩
                       · (first | (go_at_call 40; (with_reducible refine (rvwithin_c' _ _ _ _ _ _ _ _ _ _ _ _ _ _ _).mono ?_); rintro e w1 ⟨rfl, hb1⟩))
                         (try simp only [Vl.eta, Tn.eta, Sp.eta, Fa.eta, hq])
                         exact ⟨rfl, by first | exact hC | exact RWithinC_keep _ _ hC hb1⟩
                       go_big_quiet_on))))
        refine wpQuiet_nil ?_
        intro w9 hC
        obtain ⟨k0, k1, k2, k3, k4, k5, k6, k7, k8, k9, k10, k11, k12, k13, k14⟩ := hC
        obtain ⟨hc9, hf9, hz9⟩ := bcell k14
        have hk9 := bblk k14
        go_wp2
        go_roundw
        case rel => exact ⟨k + 1, by omega, by go_num, Lib.hid (St.inR_succ hup.out hq), (by repeat' (first | (with_reducible exact Below.refl _ _) | (with_reducible assumption) | (with_reducible refine Below.alloc ?_ ?_ _) | (with_reducible refine Below.setCell ?_ ?_ _) | (with_reducible refine below_setRow ?_ ?_) | (with_reducible refine Below.drew ?_) | (with_reducible refine below_dn ?_ _) | (with_reducible refine Below.trans ?_ (Below.mono (by assumption) ?_)) | go_size))⟩
        case measure => simp [intOf]; omega
    · obtain rfl : k = 11 := by omega
      have h11 := Lib.hid hup.out
      clear hup
      rw [show ((11 : Nat) : Int) = 11 from rfl]
      go_wp2
      clear hcB hfB hzB hkB
      go_loopw [6] (fun c wr => ∃ k : Nat, k ≤ 64 ∧ c = .int .i64 (k : Int) ∧ Hid (a.inS b k = true) ∧ Below (w.heap.size + 1 + 1) ((w.alloc (.cells a.cells 38)).alloc (.cells b.cells 38)) wr) (fun c _ => 64 - (intOf c).toNat)
      case atStart => exact ⟨0, by omega, rfl, Lib.hid (a.inS_zero b), hB⟩
      case round =>
        clear hB
        obtain ⟨k, hk, rfl, hup, hB⟩ := hrel
        have hB' : Below ((w.alloc (.cells a.cells 38)).alloc (.cells b.cells 38)).heap.size ((w.alloc (.cells a.cells 38)).alloc (.cells b.cells 38)) wr := by simpa using hB
        obtain ⟨hcB, hfB, hzB⟩ := bcell hB'
        have hkB := bblk hB'
        (try simp only [World.size_alloc] at hcB hfB hzB hkB)
        clear hB'
        by_cases hlt2 : k < 64
        · cases hq : St.slotIn (a.s k) (b.s k)
          · go_wp2_with fail
            refine wp_region_class (RWithinD w.heap.size (w.heap.size + 1) k (a.s k) (b.s k) wr) (by kernel_rfl) (by kernel_rfl) ?_ ?_
            · refine ⟨?_, ?_, ?_, ?_, ?_, ?_, ?_, ?_, ?_, ?_, ?_, ?_, ?_, ?_, ?_, ?_, (by repeat' (first | (with_reducible exact Below.refl _ _) | (with_reducible assumption) | (with_reducible refine Below.alloc ?_ ?_ _) | (with_reducible refine Below.setCell ?_ ?_ _) | (with_reducible refine Below.drew ?_) | (with_reducible refine below_dn ?_ _) | (with_reducible refine Below.trans ?_ (Below.mono (by assumption) ?_)) | go_size))⟩
              all_goals first | (intro i; simp [*, go_sem, ↓IntWalk.iteOmega]; done) | (simp [*, go_sem, ↓IntWalk.iteOmega]; done)
            intro hN
            (try simp only [List.append])
            repeat (first
              | go_big_quiet_skip
              | (go_big_quiet_want
                 first
                   | ((first | (refine quiet_load_Slot rfl rfl (fun w' hC => by obtain ⟨k0, k1, k2, k3, k4, k5, k6, k7, k8, k9, k10, k11, k12, k13, k14, k15, k16⟩ := hC; exact ⟨by assumption, by assumption, by assumption, by assumption, by assumption, by assumption, by assumption, by assumption⟩) ?_) | (refine quiet_load_W rfl rfl (fun w' hC => by obtain ⟨k0, k1, k2, k3, k4, k5, k6, k7, k8, k9, k10, k11, k12, k13, k14, k15, k16⟩ := hC; assumption) ?_))
                      simp only [Act.put, List.setIfInBounds_toArray, List.set_cons_succ, List.set_cons_zero]
                      go_big_quiet_on)
                   | (go_big_quiet_op
                      first
                        | go_big_quiet_on
                        | (apply Exists.intro
                           refine ⟨fun w' hC => ?_, ?_⟩
                           · (first | (go_at_call 41; (with_reducible refine (rtslot_c' _ _ _ _ _ _ _ _ _ _ _ _ _ _ _ _ _).mono ?_); rintro e w1 ⟨rfl, hb1⟩))
                             (try simp only [Sl.eta, Vl.eta, Tn.eta, Sp.eta, Fa.eta, hq])
                             exact ⟨rfl, by first | exact hC | exact RWithinD_keep _ _ hC hb1⟩
                           go_big_quiet_on))))
            refine wpQuiet_nil ?_
            intro w9 hC
            obtain ⟨k0, k1, k2, k3, k4, k5, k6, k7, k8, k9, k10, k11, k12, k13, k14, k15, k16⟩ := hC
            obtain ⟨hc9, hf9, hz9⟩ := bcell k16
            have hk9 := bblk k16
            go_wp2
            go_ret
            exact ⟨Eq.trans (b := Ending.returned (.bool false)) rfl (by rw [St.within_noS hlt2 hq]), (by repeat' (first | (with_reducible exact Below.refl _ _) | (with_reducible assumption) | (with_reducible refine Below.alloc ?_ ?_ _) | (with_reducible refine Below.setCell ?_ ?_ _) | (with_reducible refine below_setRow ?_ ?_) | (with_reducible refine Below.drew ?_) | (with_reducible refine below_dn ?_ _) | (with_reducible refine Below.trans ?_ (Below.mono (by assumption) ?_)) | go_size))⟩
          · go_wp2_with fail
            refine wp_region_class (RWithinD w.heap.size (w.heap.size + 1) k (a.s k) (b.s k) wr) (by kernel_rfl) (by kernel_rfl) ?_ ?_
            · refine ⟨?_, ?_, ?_, ?_, ?_, ?_, ?_, ?_, ?_, ?_, ?_, ?_, ?_, ?_, ?_, ?_, (by repeat' (first | (with_reducible exact Below.refl _ _) | (with_reducible assumption) | (with_reducible refine Below.alloc ?_ ?_ _) | (with_reducible refine Below.setCell ?_ ?_ _) | (with_reducible refine Below.drew ?_) | (with_reducible refine below_dn ?_ _) | (with_reducible refine Below.trans ?_ (Below.mono (by assumption) ?_)) | go_size))⟩
              all_goals first | (intro i; simp [*, go_sem, ↓IntWalk.iteOmega]; done) | (simp [*, go_sem, ↓IntWalk.iteOmega]; done)
            intro hN
            (try simp only [List.append])
            repeat (first
              | go_big_quiet_skip
              | (go_big_quiet_want
                 first
                   | ((first | (refine quiet_load_Slot rfl rfl (fun w' hC => by obtain ⟨k0, k1, k2, k3, k4, k5, k6, k7, k8, k9, k10, k11, k12, k13, k14, k15, k16⟩ := hC; exact ⟨by assumption, by assumption, by assumption, by assumption, by assumption, by assumption, by assumption, by assumption⟩) ?_) | (refine quiet_load_W rfl rfl (fun w' hC => by obtain ⟨k0, k1, k2, k3, k4, k5, k6, k7, k8, k9, k10, k11, k12, k13, k14, k15, k16⟩ := hC; assumption) ?_))
                      simp only [Act.put, List.setIfInBounds_toArray, List.set_cons_succ, List.set_cons_zero]
                      go_big_quiet_on)
                   | (go_big_quiet_op
                      first
                        | go_big_quiet_on
                        | (apply Exists.intro
                           refine ⟨fun w' hC => ?_, ?_⟩
                           · (first | (go_at_call 41; (with_reducible refine (rtslot_c' _ _ _ _ _ _ _ _ _ _ _ _ _ _ _ _ _).mono ?_); rintro e w1 ⟨rfl, hb1⟩))
                             (try simp only [Sl.eta, Vl.eta, Tn.eta, Sp.eta, Fa.eta, hq])
                             exact ⟨rfl, by first | exact hC | exact RWithinD_keep _ _ hC hb1⟩
                           go_big_quiet_on))))
            refine wpQuiet_nil ?_
            intro w9 hC
            obtain ⟨k0, k1, k2, k3, k4, k5, k6, k7, k8, k9, k10, k11, k12, k13, k14, k15, k16⟩ := hC
            obtain ⟨hc9, hf9, hz9⟩ := bcell k16
            have hk9 := bblk k16
            go_wp2
            go_roundw
            case rel => exact ⟨k + 1, by omega, by go_num, Lib.hid (St.inS_succ hup.out hq), (by repeat' (first | (with_reducible exact Below.refl _ _) | (with_reducible assumption) | (with_reducible refine Below.alloc ?_ ?_ _) | (with_reducible refine Below.setCell ?_ ?_ _) | (with_reducible refine below_setRow ?_ ?_) | (with_reducible refine Below.drew ?_) | (with_reducible refine below_dn ?_ _) | (with_reducible refine Below.trans ?_ (Below.mono (by assumption) ?_)) | go_size))⟩
            case measure => simp [intOf]; omega
        · obtain rfl : k = 64 := by omega
          have h64 := Lib.hid hup.out
          clear hup
          go_wp2
          go_ret
          exact ⟨Eq.trans (b := Ending.returned (.bool true)) rfl (by rw [show a.within b = true by unfold St.within; rw [ha, hb, h11.out, h64.out]; rfl]), (by repeat' (first | (with_reducible exact Below.refl _ _) | (with_reducible assumption) | (with_reducible refine Below.alloc ?_ ?_ _) | (with_reducible refine Below.setCell ?_ ?_ _) | (with_reducible refine below_setRow ?_ ?_) | (with_reducible refine Below.drew ?_) | (with_reducible refine below_dn ?_ _) | (with_reducible refine Below.trans ?_ (Below.mono (by assumption) ?_)) | go_size))⟩

theorem rtwithin_c (a b : St) (w : World) : Calls Try.prog 26 #[.agg (St.cells a), .agg (St.cells b)] w fun e w' => e = .returned (.bool (a.within b)) ∧ Below w.heap.size w w' := by
  cases ha : a.right
  · exact rtwithin_n1 a b ha w
  cases hb : b.right
  · exact rtwithin_n2 a b ha hb w
  exact rtwithin_y a b ha hb w

end Hk
