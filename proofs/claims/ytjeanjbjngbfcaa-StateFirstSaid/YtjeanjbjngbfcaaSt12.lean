/- Package state: Within; old memory is as it was. No condition but those in each statement. -/
import Derived.Test.YtjeanjbjngbfcaaProg
import Derived.Test.YtjeanjbjngbfcaaGp
import Derived.Test.YtjeanjbjngbfcaaSt1
import Derived.Test.YtjeanjbjngbfcaaSt2
import Derived.Test.YtjeanjbjngbfcaaSt3
import Derived.Test.YtjeanjbjngbfcaaVl4
import Derived.Test.YtjeanjbjngbfcaaVl5
import Derived.Test.YtjeanjbjngbfcaaGl
import Derived.Test.YtjeanjbjngbfcaaStk
namespace Hk
open Go Go.RowKit Go.Proofs
set_option linter.unusedSimpArgs false
set_option linter.unusedVariables false
set_option maxRecDepth 100000
attribute [go_sem] Tn.eta Sp.eta Fa.eta Vl.eta
def StWithinC (p q k : Nat) (x y : Vl) (w : World) (w' : World) : Prop := w'.cell? ⟨p, k * 7, none⟩ = some (.int .u8 x.k) ∧ w'.cell? ⟨p, k * 7 + 1, none⟩ = some (.int .u64 (N x.f.t.v)) ∧ w'.cell? ⟨p, k * 7 + 2, none⟩ = some (.int .u64 (N x.f.t.m)) ∧ w'.cell? ⟨p, k * 7 + 3, none⟩ = some (.int .u64 (N x.f.s.lo)) ∧ w'.cell? ⟨p, k * 7 + 4, none⟩ = some (.int .u64 (N x.f.s.hi)) ∧ w'.cell? ⟨p, k * 7 + 5, none⟩ = some (.int .i64 x.i) ∧ w'.cell? ⟨p, k * 7 + 6, none⟩ = some (.int .i64 x.off) ∧ w'.cell? ⟨q, 0, none⟩ = some (.int .u8 y.k) ∧ w'.cell? ⟨q, 1, none⟩ = some (.int .u64 (N y.f.t.v)) ∧ w'.cell? ⟨q, 2, none⟩ = some (.int .u64 (N y.f.t.m)) ∧ w'.cell? ⟨q, 3, none⟩ = some (.int .u64 (N y.f.s.lo)) ∧ w'.cell? ⟨q, 4, none⟩ = some (.int .u64 (N y.f.s.hi)) ∧ w'.cell? ⟨q, 5, none⟩ = some (.int .i64 y.i) ∧ w'.cell? ⟨q, 6, none⟩ = some (.int .i64 y.off) ∧ Below w.heap.size w w'
theorem StWithinC_keep {p q k : Nat} {x y : Vl} {w : World} (w' w1 : World) (h : StWithinC p q k x y w w') (hb : Below w'.heap.size w' w1) : StWithinC p q k x y w w1 := by
  obtain ⟨k0, k1, k2, k3, k4, k5, k6, k7, k8, k9, k10, k11, k12, k13, k14⟩ := h
  exact ⟨cell_keep hb k0, cell_keep hb k1, cell_keep hb k2, cell_keep hb k3, cell_keep hb k4, cell_keep hb k5, cell_keep hb k6, cell_keep hb k7, cell_keep hb k8, cell_keep hb k9, cell_keep hb k10, cell_keep hb k11, cell_keep hb k12, cell_keep hb k13, below_next k14 hb⟩

set_option maxHeartbeats 1000000 in
theorem twithin_n1 (a b : St) (ha : a.right = false) (w : World) : Calls Try.prog 25 #[.agg (St.cells a), .agg (St.cells b)] w fun e w' => e = .returned (.bool (a.within b)) ∧ Below w.heap.size w w' := by
  have E : a.within b = false := by unfold St.within; simp [*]
  rw [E]; clear E
  go_enter Try.func25, Try.ntmps25
  go_wp2_with (first | (go_at_call 17; (with_reducible refine (tright_c _ _).mono ?_); rintro e w1 ⟨rfl, hb1⟩; obtain ⟨hc1, hf1, hz1⟩ := bcell hb1; have hk1 := bblk hb1; (try simp only [World.size_alloc, World.size_setCell, World.size_drew, setRow_size] at hc1 hf1 hz1 hk1)))
  go_ret
  exact ⟨rfl, (by repeat' (first | (with_reducible exact Below.refl _ _) | (with_reducible assumption) | (with_reducible refine Below.alloc ?_ ?_ _) | (with_reducible refine Below.setCell ?_ ?_ _) | (with_reducible refine below_setRow ?_ ?_) | (with_reducible refine Below.drew ?_) | (with_reducible refine below_dn ?_ _) | (with_reducible refine Below.trans ?_ (Below.mono (by assumption) ?_)) | go_size))⟩

set_option maxHeartbeats 1000000 in
theorem twithin_n2 (a b : St) (ha : a.right = true) (hb : b.right = false) (w : World) : Calls Try.prog 25 #[.agg (St.cells a), .agg (St.cells b)] w fun e w' => e = .returned (.bool (a.within b)) ∧ Below w.heap.size w w' := by
  have E : a.within b = false := by unfold St.within; simp [*]
  rw [E]; clear E
  go_enter Try.func25, Try.ntmps25
  go_wp2_with (first | (go_at_call 17; (with_reducible refine (tright_c _ _).mono ?_); rintro e w1 ⟨rfl, hb1⟩; obtain ⟨hc1, hf1, hz1⟩ := bcell hb1; have hk1 := bblk hb1; (try simp only [World.size_alloc, World.size_setCell, World.size_drew, setRow_size] at hc1 hf1 hz1 hk1)))
  go_ret
  exact ⟨rfl, (by repeat' (first | (with_reducible exact Below.refl _ _) | (with_reducible assumption) | (with_reducible refine Below.alloc ?_ ?_ _) | (with_reducible refine Below.setCell ?_ ?_ _) | (with_reducible refine below_setRow ?_ ?_) | (with_reducible refine Below.drew ?_) | (with_reducible refine below_dn ?_ _) | (with_reducible refine Below.trans ?_ (Below.mono (by assumption) ?_)) | go_size))⟩

set_option maxHeartbeats 8000000 in
theorem twithin_y (a b : St) (ha : a.right = true) (hb : b.right = true) (w : World) : Calls Try.prog 25 #[.agg (St.cells a), .agg (St.cells b)] w fun e w' => e = .returned (.bool (a.within b)) ∧ Below w.heap.size w w' := by
  go_enter Try.func25, Try.ntmps25
  go_wp2_with (first | (go_at_call 17; (with_reducible refine (tright_c _ _).mono ?_); rintro e w1 ⟨rfl, hb1⟩; obtain ⟨hc1, hf1, hz1⟩ := bcell hb1; have hk1 := bblk hb1; (try simp only [World.size_alloc, World.size_setCell, World.size_drew, setRow_size] at hc1 hf1 hz1 hk1)))
  have HB : Below (w.heap.size + 1 + 1) ((w.alloc (.cells a.cells 38)).alloc (.cells b.cells 38)) w1 := (by repeat' (first | (with_reducible exact Below.refl _ _) | (with_reducible assumption) | (with_reducible refine Below.alloc ?_ ?_ _) | (with_reducible refine Below.setCell ?_ ?_ _) | (with_reducible refine below_setRow ?_ ?_) | (with_reducible refine Below.drew ?_) | (with_reducible refine below_dn ?_ _) | (with_reducible refine Below.trans ?_ (Below.mono (by assumption) ?_)) | go_size))
  clear hb1 hc1 hf1 hz1 hk1
  go_loopw [20] (fun c wr => ∃ k : Nat, k ≤ 11 ∧ c = .int .i64 (k : Int) ∧ Hid (a.inR b k = true) ∧ Below (w.heap.size + 1 + 1) ((w.alloc (.cells a.cells 38)).alloc (.cells b.cells 38)) wr) (fun c _ => 11 - (intOf c).toNat)
  case atStart => exact ⟨0, by omega, rfl, Lib.hid (a.inR_zero b), HB⟩
  case round =>
    obtain ⟨k, hk, rfl, hup, hB⟩ := hrel
    have hB' : Below ((w.alloc (.cells a.cells 38)).alloc (.cells b.cells 38)).heap.size ((w.alloc (.cells a.cells 38)).alloc (.cells b.cells 38)) wr := by simpa using hB
    obtain ⟨hcB, hfB, hzB⟩ := bcell hB'
    have hkB := bblk hB'
    (try simp only [World.size_alloc] at hcB hfB hzB hkB)
    clear hB'
    by_cases hlt : k < 11
    · cases hq : Vl.within (a.r k) (b.r k)
      · go_wp2_with fail
        refine wp_region_class (StWithinC w.heap.size wr.heap.size k (a.r k) (b.r k) (wr.alloc (.cells #[.int .u8 (b.r k).k, .int .u64 (N (b.r k).f.t.v), .int .u64 (N (b.r k).f.t.m), .int .u64 (N (b.r k).f.s.lo), .int .u64 (N (b.r k).f.s.hi), .int .i64 (b.r k).i, .int .i64 (b.r k).off] 31))) (by kernel_rfl) (by kernel_rfl) ?_ ?_
        · refine ⟨?_, ?_, ?_, ?_, ?_, ?_, ?_, ?_, ?_, ?_, ?_, ?_, ?_, ?_, (by repeat' (first | (with_reducible exact Below.refl _ _) | (with_reducible assumption) | (with_reducible refine Below.alloc ?_ ?_ _) | (with_reducible refine Below.setCell ?_ ?_ _) | (with_reducible refine Below.drew ?_) | (with_reducible refine below_dn ?_ _) | (with_reducible refine Below.trans ?_ (Below.mono (by assumption) ?_)) | go_size))⟩
          all_goals first | (intro i; simp [*, go_sem, ↓IntWalk.iteOmega]; done) | (simp [*, go_sem, ↓IntWalk.iteOmega]; done)
        intro hN
        (try simp only [List.append])
        repeat (first
          | go_big_quiet_skip
          | (go_big_quiet_want
             first
               | ((first | (refine quiet_load_Val rfl rfl (fun w' hC => by obtain ⟨k0, k1, k2, k3, k4, k5, k6, k7, k8, k9, k10, k11, k12, k13, k14⟩ := hC; exact ⟨by assumption, by assumption, by assumption, by assumption, by assumption, by assumption, by assumption⟩) ?_) | (refine quiet_load_W rfl rfl (fun w' hC => by obtain ⟨k0, k1, k2, k3, k4, k5, k6, k7, k8, k9, k10, k11, k12, k13, k14⟩ := hC; assumption) ?_))
                  simp only [Act.put, List.setIfInBounds_toArray, List.set_cons_succ, List.set_cons_zero]
                  go_big_quiet_on)
               | (go_big_quiet_op
                  first
                    | go_big_quiet_on
                    | (apply Exists.intro
                       refine ⟨fun w' hC => ?_, ?_⟩
                       · (first | (go_at_call 39; (with_reducible refine (vwithin_c' _ _ _ _ _ _ _ _ _ _ _ _ _ _ _).mono ?_); rintro e w1 ⟨rfl, hb1⟩))
                         (try simp only [Vl.eta, Tn.eta, Sp.eta, Fa.eta, hq])
                         exact ⟨rfl, by first | exact hC | exact StWithinC_keep _ _ hC hb1⟩
                       go_big_quiet_on))))
        refine wpQuiet_nil ?_
        intro w9 hC
        obtain ⟨k0, k1, k2, k3, k4, k5, k6, k7, k8, k9, k10, k11, k12, k13, k14⟩ := hC
        obtain ⟨hc9, hf9, hz9⟩ := bcell k14
        have hk9 := bblk k14
        (try simp only [World.size_alloc] at hc9 hf9 hz9 hk9)
        go_wp2
        go_ret
        exact ⟨Eq.trans (b := Ending.returned (.bool false)) rfl (by rw [St.within_noR hlt hq]), (by repeat' (first | (with_reducible exact Below.refl _ _) | (with_reducible assumption) | (with_reducible refine Below.alloc ?_ ?_ _) | (with_reducible refine Below.setCell ?_ ?_ _) | (with_reducible refine below_setRow ?_ ?_) | (with_reducible refine Below.drew ?_) | (with_reducible refine below_dn ?_ _) | (with_reducible refine Below.trans ?_ (Below.mono (by assumption) ?_)) | go_size))⟩
      · go_wp2_with fail
        refine wp_region_class (StWithinC w.heap.size wr.heap.size k (a.r k) (b.r k) (wr.alloc (.cells #[.int .u8 (b.r k).k, .int .u64 (N (b.r k).f.t.v), .int .u64 (N (b.r k).f.t.m), .int .u64 (N (b.r k).f.s.lo), .int .u64 (N (b.r k).f.s.hi), .int .i64 (b.r k).i, .int .i64 (b.r k).off] 31))) (by kernel_rfl) (by kernel_rfl) ?_ ?_
        · refine ⟨?_, ?_, ?_, ?_, ?_, ?_, ?_, ?_, ?_, ?_, ?_, ?_, ?_, ?_, (by repeat' (first | (with_reducible exact Below.refl _ _) | (with_reducible assumption) | (with_reducible refine Below.alloc ?_ ?_ _) | (with_reducible refine Below.setCell ?_ ?_ _) | (with_reducible refine Below.drew ?_) | (with_reducible refine below_dn ?_ _) | (with_reducible refine Below.trans ?_ (Below.mono (by assumption) ?_)) | go_size))⟩
          all_goals first | (intro i; simp [*, go_sem, ↓IntWalk.iteOmega]; done) | (simp [*, go_sem, ↓IntWalk.iteOmega]; done)
        intro hN
        (try simp only [List.append])
        repeat (first
          | go_big_quiet_skip
          | (go_big_quiet_want
             first
               | ((first | (refine quiet_load_Val rfl rfl (fun w' hC => by obtain ⟨k0, k1, k2, k3, k4, k5, k6, k7, k8, k9, k10, k11, k12, k13, k14⟩ := hC; exact ⟨by assumption, by assumption, by assumption, by assumption, by assumption, by assumption, by assumption⟩) ?_) | (refine quiet_load_W rfl rfl (fun w' hC => by obtain ⟨k0, k1, k2, k3, k4, k5, k6, k7, k8, k9, k10, k11, k12, k13, k14⟩ := hC; assumption) ?_))
                  simp only [Act.put, List.setIfInBounds_toArray, List.set_cons_succ, List.set_cons_zero]
                  go_big_quiet_on)
               | (go_big_quiet_op
                  first
                    | go_big_quiet_on
                    | (apply Exists.intro
                       refine ⟨fun w' hC => ?_, ?_⟩
                       · (first | (go_at_call 39; (with_reducible refine (vwithin_c' _ _ _ _ _ _ _ _ _ _ _ _ _ _ _).mono ?_); rintro e w1 ⟨rfl, hb1⟩))
                         (try simp only [Vl.eta, Tn.eta, Sp.eta, Fa.eta, hq])
                         exact ⟨rfl, by first | exact hC | exact StWithinC_keep _ _ hC hb1⟩
                       go_big_quiet_on))))
        refine wpQuiet_nil ?_
        intro w9 hC
        obtain ⟨k0, k1, k2, k3, k4, k5, k6, k7, k8, k9, k10, k11, k12, k13, k14⟩ := hC
        obtain ⟨hc9, hf9, hz9⟩ := bcell k14
        have hk9 := bblk k14
        (try simp only [World.size_alloc] at hc9 hf9 hz9 hk9)
        go_wp2
        go_roundw
        case rel => exact ⟨k + 1, by omega, by go_num, Lib.hid (St.inR_succ hup.out hq), (by repeat' (first | (with_reducible exact Below.refl _ _) | (with_reducible assumption) | (with_reducible refine Below.alloc ?_ ?_ _) | (with_reducible refine Below.setCell ?_ ?_ _) | (with_reducible refine below_setRow ?_ ?_) | (with_reducible refine Below.drew ?_) | (with_reducible refine below_dn ?_ _) | (with_reducible refine Below.trans ?_ (Below.mono (by assumption) ?_)) | go_size))⟩
        case measure => simp [intOf]; omega
    · obtain rfl : k = 11 := by omega
      have h11 := Lib.hid hup.out
      clear hup
      rw [show ((11 : Nat) : Int) = 11 from rfl]
      go_wp2
      clear hcB hfB hzB hkB
      go_loopw [34] (fun c wr => ∃ k : Nat, k ≤ 64 ∧ c = .int .i64 (k : Int) ∧ Hid (a.inS b k = true) ∧ Below (w.heap.size + 1 + 1) ((w.alloc (.cells a.cells 38)).alloc (.cells b.cells 38)) wr) (fun c _ => 64 - (intOf c).toNat)
      case atStart => exact ⟨0, by omega, rfl, Lib.hid (a.inS_zero b), hB⟩
      case round =>
        clear hB
        obtain ⟨k, hk, rfl, hup, hB⟩ := hrel
        have hB' : Below ((w.alloc (.cells a.cells 38)).alloc (.cells b.cells 38)).heap.size ((w.alloc (.cells a.cells 38)).alloc (.cells b.cells 38)) wr := by simpa using hB
        obtain ⟨hcB, hfB, hzB⟩ := bcell hB'
        have hkB := bblk hB'
        (try simp only [World.size_alloc] at hcB hfB hzB hkB)
        clear hB'
        by_cases hlt2 : k < 64
        · by_cases hy' : (b.s k).v.k = 0
          · have hy := Lib.hid hy'
            have hyb1 : ((b.s k).v.k == 0) = true := by simp [hy.out]
            have hyb2 : ((b.s k).v.k != 0) = false := by simp [hy.out]
            have hs : St.slotIn (a.s k) (b.s k) = ((b.s k).p &&& ~~~(a.s k).p == 0#8) := by unfold St.slotIn; rw [if_pos hy']
            have hsl := Lib.hid hs
            clear hy' hs
            cases hq : ((b.s k).p &&& ~~~(a.s k).p == 0#8)
            · go_wp2_with (first | (go_at_call 39; (with_reducible refine (vwithin_c' _ _ _ _ _ _ _ _ _ _ _ _ _ _ _).mono ?_); rintro e w1 ⟨rfl, hb1⟩; obtain ⟨hc1, hf1, hz1⟩ := bcell hb1; have hk1 := bblk hb1; (try simp only [World.size_alloc, World.size_setCell, World.size_drew, setRow_size] at hc1 hf1 hz1 hk1)))
              go_ret
              exact ⟨Eq.trans (b := Ending.returned (.bool false)) rfl (by rw [St.within_noS hlt2 (by rw [hsl.out, hq])]), (by repeat' (first | (with_reducible exact Below.refl _ _) | (with_reducible assumption) | (with_reducible refine Below.alloc ?_ ?_ _) | (with_reducible refine Below.setCell ?_ ?_ _) | (with_reducible refine below_setRow ?_ ?_) | (with_reducible refine Below.drew ?_) | (with_reducible refine below_dn ?_ _) | (with_reducible refine Below.trans ?_ (Below.mono (by assumption) ?_)) | go_size))⟩
            · go_wp2_with (first | (go_at_call 39; (with_reducible refine (vwithin_c' _ _ _ _ _ _ _ _ _ _ _ _ _ _ _).mono ?_); rintro e w1 ⟨rfl, hb1⟩; obtain ⟨hc1, hf1, hz1⟩ := bcell hb1; have hk1 := bblk hb1; (try simp only [World.size_alloc, World.size_setCell, World.size_drew, setRow_size] at hc1 hf1 hz1 hk1)))
              go_roundw
              case rel => exact ⟨k + 1, by omega, by go_num, Lib.hid (St.inS_succ hup.out (by rw [hsl.out, hq])), (by repeat' (first | (with_reducible exact Below.refl _ _) | (with_reducible assumption) | (with_reducible refine Below.alloc ?_ ?_ _) | (with_reducible refine Below.setCell ?_ ?_ _) | (with_reducible refine below_setRow ?_ ?_) | (with_reducible refine Below.drew ?_) | (with_reducible refine below_dn ?_ _) | (with_reducible refine Below.trans ?_ (Below.mono (by assumption) ?_)) | go_size))⟩
              case measure => simp [intOf]; omega
          · have hy := Lib.hid hy'
            have hyb1 : ((b.s k).v.k == 0) = false := by simp [hy.out]
            have hyb2 : ((b.s k).v.k != 0) = true := by simp [hy.out]
            have hs : St.slotIn (a.s k) (b.s k) = (!decide ((a.s k).v.k = 0) && Vl.within (a.s k).v (b.s k).v) := by unfold St.slotIn; rw [if_neg hy']
            have hsl := Lib.hid hs
            clear hy' hs
            by_cases hx' : (a.s k).v.k = 0
            · have hx := Lib.hid hx'
              have hxb1 : ((a.s k).v.k == 0) = true := by simp [hx.out]
              have hxb2 : ((a.s k).v.k != 0) = false := by simp [hx.out]
              clear hx'
              go_wp2_with (first | (go_at_call 39; (with_reducible refine (vwithin_c' _ _ _ _ _ _ _ _ _ _ _ _ _ _ _).mono ?_); rintro e w1 ⟨rfl, hb1⟩; obtain ⟨hc1, hf1, hz1⟩ := bcell hb1; have hk1 := bblk hb1; (try simp only [World.size_alloc, World.size_setCell, World.size_drew, setRow_size] at hc1 hf1 hz1 hk1)))
              go_ret
              exact ⟨Eq.trans (b := Ending.returned (.bool false)) rfl (by rw [St.within_noS hlt2 (by rw [hsl.out]; simp [hx.out])]), (by repeat' (first | (with_reducible exact Below.refl _ _) | (with_reducible assumption) | (with_reducible refine Below.alloc ?_ ?_ _) | (with_reducible refine Below.setCell ?_ ?_ _) | (with_reducible refine below_setRow ?_ ?_) | (with_reducible refine Below.drew ?_) | (with_reducible refine below_dn ?_ _) | (with_reducible refine Below.trans ?_ (Below.mono (by assumption) ?_)) | go_size))⟩
            · have hx := Lib.hid hx'
              have hxb1 : ((a.s k).v.k == 0) = false := by simp [hx.out]
              have hxb2 : ((a.s k).v.k != 0) = true := by simp [hx.out]
              clear hx'
              cases hq : Vl.within (a.s k).v (b.s k).v
              · go_wp2_with (first | (go_at_call 39; (with_reducible refine (vwithin_c' _ _ _ _ _ _ _ _ _ _ _ _ _ _ _).mono ?_); rintro e w1 ⟨rfl, hb1⟩; obtain ⟨hc1, hf1, hz1⟩ := bcell hb1; have hk1 := bblk hb1; (try simp only [World.size_alloc, World.size_setCell, World.size_drew, setRow_size] at hc1 hf1 hz1 hk1)))
                go_ret
                exact ⟨Eq.trans (b := Ending.returned (.bool false)) rfl (by rw [St.within_noS hlt2 (by rw [hsl.out, hq]; simp)]), (by repeat' (first | (with_reducible exact Below.refl _ _) | (with_reducible assumption) | (with_reducible refine Below.alloc ?_ ?_ _) | (with_reducible refine Below.setCell ?_ ?_ _) | (with_reducible refine below_setRow ?_ ?_) | (with_reducible refine Below.drew ?_) | (with_reducible refine below_dn ?_ _) | (with_reducible refine Below.trans ?_ (Below.mono (by assumption) ?_)) | go_size))⟩
              · go_wp2_with (first | (go_at_call 39; (with_reducible refine (vwithin_c' _ _ _ _ _ _ _ _ _ _ _ _ _ _ _).mono ?_); rintro e w1 ⟨rfl, hb1⟩; obtain ⟨hc1, hf1, hz1⟩ := bcell hb1; have hk1 := bblk hb1; (try simp only [World.size_alloc, World.size_setCell, World.size_drew, setRow_size] at hc1 hf1 hz1 hk1)))
                go_roundw
                case rel => exact ⟨k + 1, by omega, by go_num, Lib.hid (St.inS_succ hup.out (by rw [hsl.out, hq]; simp [hx.out])), (by repeat' (first | (with_reducible exact Below.refl _ _) | (with_reducible assumption) | (with_reducible refine Below.alloc ?_ ?_ _) | (with_reducible refine Below.setCell ?_ ?_ _) | (with_reducible refine below_setRow ?_ ?_) | (with_reducible refine Below.drew ?_) | (with_reducible refine below_dn ?_ _) | (with_reducible refine Below.trans ?_ (Below.mono (by assumption) ?_)) | go_size))⟩
                case measure => simp [intOf]; omega
        · obtain rfl : k = 64 := by omega
          have h64 := Lib.hid hup.out
          clear hup
          go_wp2
          go_ret
          exact ⟨Eq.trans (b := Ending.returned (.bool true)) rfl (by rw [show a.within b = true by unfold St.within; rw [ha, hb, h11.out, h64.out]; rfl]), (by repeat' (first | (with_reducible exact Below.refl _ _) | (with_reducible assumption) | (with_reducible refine Below.alloc ?_ ?_ _) | (with_reducible refine Below.setCell ?_ ?_ _) | (with_reducible refine below_setRow ?_ ?_) | (with_reducible refine Below.drew ?_) | (with_reducible refine below_dn ?_ _) | (with_reducible refine Below.trans ?_ (Below.mono (by assumption) ?_)) | go_size))⟩

theorem twithin_c (a b : St) (w : World) : Calls Try.prog 25 #[.agg (St.cells a), .agg (St.cells b)] w fun e w' => e = .returned (.bool (a.within b)) ∧ Below w.heap.size w w' := by
  cases ha : a.right
  · exact twithin_n1 a b ha w
  cases hb : b.right
  · exact twithin_n2 a b ha hb w
  exact twithin_y a b ha hb w

end Hk
