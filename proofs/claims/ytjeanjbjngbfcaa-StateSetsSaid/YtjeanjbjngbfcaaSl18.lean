/- The statement StateSets of the Go text: it returns true, and old memory is as it was. No condition but the bounds of the arguments' kinds, and what stands in memory. -/
import Derived.Test.YtjeanjbjngbfcaaProg
import Derived.Test.YtjeanjbjngbfcaaGp
import Derived.Test.YtjeanjbjngbfcaaStLw
import Derived.Test.YtjeanjbjngbfcaaSt1
import Derived.Test.YtjeanjbjngbfcaaSt2
import Derived.Test.YtjeanjbjngbfcaaSt3
import Derived.Test.YtjeanjbjngbfcaaSt5
import Derived.Test.YtjeanjbjngbfcaaStk
import Derived.Test.YtjeanjbjngbfcaaSteq
import Derived.Test.YtjeanjbjngbfcaaLds
import Derived.Test.YtjeanjbjngbfcaaRt1
import Derived.Test.YtjeanjbjngbfcaaRt2
import Derived.Test.YtjeanjbjngbfcaaRt3
import Derived.Test.YtjeanjbjngbfcaaSl13
import Derived.Test.YtjeanjbjngbfcaaSl14
import Derived.Test.YtjeanjbjngbfcaaSl15
import Derived.Test.YtjeanjbjngbfcaaSl16
import Derived.Test.YtjeanjbjngbfcaaGl
namespace Hk
open Go Go.RowKit Go.Proofs
set_option linter.unusedSimpArgs false
set_option linter.unusedVariables false
set_option maxRecDepth 100000
attribute [go_sem] Tn.eta Sp.eta Fa.eta Vl.eta
attribute [-go_sem] zero_cells
def StSetC (bt bs b0 k : Nat) (x y v : Vl) (w : World) (w' : World) : Prop := w'.cell? ⟨bt, k * 7, none⟩ = some (.int .u8 x.k) ∧ w'.cell? ⟨bt, k * 7 + 1, none⟩ = some (.int .u64 (N x.f.t.v)) ∧ w'.cell? ⟨bt, k * 7 + 2, none⟩ = some (.int .u64 (N x.f.t.m)) ∧ w'.cell? ⟨bt, k * 7 + 3, none⟩ = some (.int .u64 (N x.f.s.lo)) ∧ w'.cell? ⟨bt, k * 7 + 4, none⟩ = some (.int .u64 (N x.f.s.hi)) ∧ w'.cell? ⟨bt, k * 7 + 5, none⟩ = some (.int .i64 x.i) ∧ w'.cell? ⟨bt, k * 7 + 6, none⟩ = some (.int .i64 x.off) ∧ w'.cell? ⟨bs, k * 7, none⟩ = some (.int .u8 y.k) ∧ w'.cell? ⟨bs, k * 7 + 1, none⟩ = some (.int .u64 (N y.f.t.v)) ∧ w'.cell? ⟨bs, k * 7 + 2, none⟩ = some (.int .u64 (N y.f.t.m)) ∧ w'.cell? ⟨bs, k * 7 + 3, none⟩ = some (.int .u64 (N y.f.s.lo)) ∧ w'.cell? ⟨bs, k * 7 + 4, none⟩ = some (.int .u64 (N y.f.s.hi)) ∧ w'.cell? ⟨bs, k * 7 + 5, none⟩ = some (.int .i64 y.i) ∧ w'.cell? ⟨bs, k * 7 + 6, none⟩ = some (.int .i64 y.off) ∧ w'.cell? ⟨b0, 0, none⟩ = some (.int .u8 v.k) ∧ w'.cell? ⟨b0, 1, none⟩ = some (.int .u64 (N v.f.t.v)) ∧ w'.cell? ⟨b0, 2, none⟩ = some (.int .u64 (N v.f.t.m)) ∧ w'.cell? ⟨b0, 3, none⟩ = some (.int .u64 (N v.f.s.lo)) ∧ w'.cell? ⟨b0, 4, none⟩ = some (.int .u64 (N v.f.s.hi)) ∧ w'.cell? ⟨b0, 5, none⟩ = some (.int .i64 v.i) ∧ w'.cell? ⟨b0, 6, none⟩ = some (.int .i64 v.off) ∧ Below w.heap.size w w'
theorem StSetC_keep {bt bs b0 k : Nat} {x y v : Vl} {w : World} (w' w1 : World) (h : StSetC bt bs b0 k x y v w w') (hb : Below w'.heap.size w' w1) : StSetC bt bs b0 k x y v w w1 := by
  obtain ⟨k0, k1, k2, k3, k4, k5, k6, k7, k8, k9, k10, k11, k12, k13, k14, k15, k16, k17, k18, k19, k20, k21⟩ := h
  exact ⟨cell_keep hb k0, cell_keep hb k1, cell_keep hb k2, cell_keep hb k3, cell_keep hb k4, cell_keep hb k5, cell_keep hb k6, cell_keep hb k7, cell_keep hb k8, cell_keep hb k9, cell_keep hb k10, cell_keep hb k11, cell_keep hb k12, cell_keep hb k13, cell_keep hb k14, cell_keep hb k15, cell_keep hb k16, cell_keep hb k17, cell_keep hb k18, cell_keep hb k19, cell_keep hb k20, below_next k21 hb⟩

def StSetD (fs ft : St) (bs bt : Nat) (w : World) (w' : World) : Prop := blk w' bs = fs.cells ∧ blk w' bt = ft.cells ∧ Below w.heap.size w w'
theorem StSetD_keep {fs ft : St} {bs bt : Nat} {w : World} (w' w1 : World) (h : StSetD fs ft bs bt w w') (hb : Below w'.heap.size w' w1) : StSetD fs ft bs bt w w1 := by
  obtain ⟨k0, k1, k2⟩ := h
  exact ⟨blk_keep hb k0 (by rw [St.cells_size]; decide), blk_keep hb k1 (by rw [St.cells_size]; decide), below_next k2 hb⟩

set_option maxHeartbeats 8000000 in
theorem stateSets_walk (p : Option Addr) (len cap : Nat) (hlen : len ≤ 9223372036854775807) (L : Nat → Ac) (i : Int) (_ : -9223372036854775808 ≤ i ∧ i ≤ 9223372036854775807) (v : Vl) (_ : 0 ≤ v.k ∧ v.k ≤ 255) (_ : -9223372036854775808 ≤ v.i ∧ v.i ≤ 9223372036854775807) (_ : -9223372036854775808 ≤ v.off ∧ v.off ≤ 9223372036854775807) (w : World) (hA : Acts w p len L) : Calls Try.prog 3 #[.slice p len cap, .int .i64 i, .agg #[.int .u8 v.k, .int .u64 (N v.f.t.v), .int .u64 (N v.f.t.m), .int .u64 (N v.f.s.lo), .int .u64 (N v.f.s.hi), .int .i64 v.i, .int .i64 v.off]] w fun e w' => e = .returned (.bool true) ∧ Below w.heap.size w w' := by
  obtain ⟨z0, hz0⟩ : ∃ z, Hid (St.zero = z) := ⟨_, Lib.hid rfl⟩
  have hzc : Try.zeroCells38 = z0.cells := by rw [← hz0.out]; exact zero_cells
  obtain ⟨s0, hs0⟩ : ∃ s0 : St, Hid (s0 = St.first) := ⟨_, Lib.hid rfl⟩
  obtain ⟨s, hs⟩ : ∃ s, Hid (St.madeN L len = s) := ⟨_, Lib.hid rfl⟩
  go_enter Try.func3, Try.ntmps3
  go_wp2_with fail
  refine (tshown_c _).mono ?_
  rintro e wH ⟨rfl, hbwH⟩
  obtain ⟨hcwH, hfwH, hzwH⟩ := bcell hbwH
  have hkwH := bblk hbwH
  (try simp only [World.size_alloc, World.size_setCell, World.size_drew, setRow_size] at hcwH hfwH hzwH hkwH)
  go_wp2_with fail
  refine (tmade_c0 _ _ _ hlen L s0 hs0 _ (hA.keep (by repeat' (first | (with_reducible exact Below.refl _ _) | (with_reducible assumption) | (with_reducible refine Below.alloc ?_ ?_ _) | (with_reducible refine Below.setCell ?_ ?_ _) | (with_reducible refine below_setRow ?_ ?_) | (with_reducible refine Below.drew ?_) | (with_reducible refine below_dn ?_ _) | (with_reducible refine Below.trans ?_ (Below.mono (by assumption) ?_)) | go_size)))).mono ?_
  rintro e wM ⟨rfl, hbwM⟩
  obtain ⟨hcwM, hfwM, hzwM⟩ := bcell hbwM
  have hkwM := bblk hbwM
  (try simp only [World.size_alloc, World.size_setCell, World.size_drew, setRow_size] at hcwM hfwM hzwM hkwM)
  rw [hs.out]
  go_wp2_with fail
  refine (tset_c' _ _ _ _ _ _ _ _ _ _).mono ?_
  rintro e wS ⟨rfl, hbwS⟩
  obtain ⟨hcwS, hfwS, hzwS⟩ := bcell hbwS
  have hkwS := bblk hbwS
  (try simp only [World.size_alloc, World.size_setCell, World.size_drew, setRow_size] at hcwS hfwS hzwS hkwS)
  (try simp only [Vl.eta, Tn.eta, Sp.eta, Fa.eta])
  have hr : s.right = true := by rw [← hs.out]; exact St.right_madeN L len
  cases hok : s.setOk i v
  · have hset : s.set i v = St.zero := by unfold St.set; rw [hok]; rfl
    have h3 := St.setOk_not hr hok
    rw [hset, hz0.out]
    simp only [Bool.false_eq_true, if_false]
    by_cases ha : i < 0
    · go_wp2_with (first | (go_at_call 13; (with_reducible refine (rvright_c' _ _ _ _ _ _ _ _).mono ?_); rintro e w1 ⟨rfl, hb1⟩; obtain ⟨hc1, hf1, hz1⟩ := bcell hb1; have hk1 := bblk hb1; (try simp only [World.size_alloc, World.size_setCell, World.size_drew] at hc1 hf1 hz1 hk1)))
      go_ret
      exact ⟨rfl, (by repeat' (first | (with_reducible exact Below.refl _ _) | (with_reducible assumption) | (with_reducible refine Below.alloc ?_ ?_ _) | (with_reducible refine Below.setCell ?_ ?_ _) | (with_reducible refine below_setRow ?_ ?_) | (with_reducible refine Below.drew ?_) | (with_reducible refine below_dn ?_ _) | (with_reducible refine Below.trans ?_ (Below.mono (by assumption) ?_)) | go_size))⟩
    · have ha' : 0 ≤ i := by omega
      by_cases hb : 10 < i
      · go_wp2_with (first | (go_at_call 13; (with_reducible refine (rvright_c' _ _ _ _ _ _ _ _).mono ?_); rintro e w1 ⟨rfl, hb1⟩; obtain ⟨hc1, hf1, hz1⟩ := bcell hb1; have hk1 := bblk hb1; (try simp only [World.size_alloc, World.size_setCell, World.size_drew] at hc1 hf1 hz1 hk1)))
        go_ret
        exact ⟨rfl, (by repeat' (first | (with_reducible exact Below.refl _ _) | (with_reducible assumption) | (with_reducible refine Below.alloc ?_ ?_ _) | (with_reducible refine Below.setCell ?_ ?_ _) | (with_reducible refine below_setRow ?_ ?_) | (with_reducible refine Below.drew ?_) | (with_reducible refine below_dn ?_ _) | (with_reducible refine Below.trans ?_ (Below.mono (by assumption) ?_)) | go_size))⟩
      · have hv : Vl.right v = false := by rcases h3 with h | h | h; exact absurd h ha; exact absurd h hb; exact h
        go_wp2_with (first | (go_at_call 13; (with_reducible refine (rvright_c' _ _ _ _ _ _ _ _).mono ?_); rintro e w1 ⟨rfl, hb1⟩; obtain ⟨hc1, hf1, hz1⟩ := bcell hb1; have hk1 := bblk hb1; (try simp only [World.size_alloc, World.size_setCell, World.size_drew] at hc1 hf1 hz1 hk1)))
        go_ret
        exact ⟨rfl, (by repeat' (first | (with_reducible exact Below.refl _ _) | (with_reducible assumption) | (with_reducible refine Below.alloc ?_ ?_ _) | (with_reducible refine Below.setCell ?_ ?_ _) | (with_reducible refine below_setRow ?_ ?_) | (with_reducible refine Below.drew ?_) | (with_reducible refine below_dn ?_ _) | (with_reducible refine Below.trans ?_ (Below.mono (by assumption) ?_)) | go_size))⟩
  · obtain ⟨h0, h1, hv, _⟩ := St.setOk_r hok
    obtain ⟨j, rfl⟩ := Int.eq_ofNat_of_zero_le h0
    have hj : j < 11 := by omega
    have hset : s.set (j : Int) v = s.setR j v := by unfold St.set; rw [hok]; rfl
    obtain ⟨tt, htt⟩ : ∃ x, Hid (s.setR j v = x) := ⟨_, Lib.hid rfl⟩
    have hrt : ∀ q, tt.r q = if q = j then v else s.r q := fun q => by rw [← htt.out]; rfl
    have hsl : tt.slots = s.slots := by rw [← htt.out]; exact slots_setR s j v
    have hbk : tt.set (j : Int) (s.r j) = s ∧ tt.setOk (j : Int) (s.r j) = true := by rw [← htt.out]; exact St.set_back hr hv hj
    obtain ⟨hbk1, hbk2⟩ := hbk
    have hbk1 := Lib.hid hbk1
    have hbk2 := Lib.hid hbk2
    have hrth := Lib.hid hrt
    clear hrt
    rw [hset, htt.out]
    clear hset
    simp only [if_true]
    go_wp2
    go_loopw [45] (fun c wr => ∃ k : Nat, k ≤ 11 ∧ c = .int .i64 (k : Int) ∧ blk wr wM.heap.size = s.cells ∧ blk wr wS.heap.size = tt.cells ∧ wr.cell? ⟨w.heap.size, 0, none⟩ = some (.int .u8 v.k) ∧ wr.cell? ⟨w.heap.size, 1, none⟩ = some (.int .u64 (N v.f.t.v)) ∧ wr.cell? ⟨w.heap.size, 2, none⟩ = some (.int .u64 (N v.f.t.m)) ∧ wr.cell? ⟨w.heap.size, 3, none⟩ = some (.int .u64 (N v.f.s.lo)) ∧ wr.cell? ⟨w.heap.size, 4, none⟩ = some (.int .u64 (N v.f.s.hi)) ∧ wr.cell? ⟨w.heap.size, 5, none⟩ = some (.int .i64 v.i) ∧ wr.cell? ⟨w.heap.size, 6, none⟩ = some (.int .i64 v.off) ∧ Below w.heap.size w wr) (fun c _ => 11 - (intOf c).toNat)
    case atStart => exact ⟨0, by omega, rfl, (by simp [*, go_sem, ↓IntWalk.iteOmega]), (by simp [*, go_sem, ↓IntWalk.iteOmega]), (by simp [*, go_sem, ↓IntWalk.iteOmega]), (by simp [*, go_sem, ↓IntWalk.iteOmega]), (by simp [*, go_sem, ↓IntWalk.iteOmega]), (by simp [*, go_sem, ↓IntWalk.iteOmega]), (by simp [*, go_sem, ↓IntWalk.iteOmega]), (by simp [*, go_sem, ↓IntWalk.iteOmega]), (by simp [*, go_sem, ↓IntWalk.iteOmega]), (by repeat' (first | (with_reducible exact Below.refl _ _) | (with_reducible assumption) | (with_reducible refine Below.alloc ?_ ?_ _) | (with_reducible refine Below.setCell ?_ ?_ _) | (with_reducible refine below_setRow ?_ ?_) | (with_reducible refine Below.drew ?_) | (with_reducible refine below_dn ?_ _) | (with_reducible refine Below.trans ?_ (Below.mono (by assumption) ?_)) | go_size))⟩
    case round =>
      obtain ⟨k, hk, rfl, hS, hT, v0, v1, v2, v3, v4, v5, v6, hB⟩ := hrel
      have zS := blk_lt (w := wr) (b := wM.heap.size) (by rw [hS, St.cells_size]; decide)
      have zT := blk_lt (w := wr) (b := wS.heap.size) (by rw [hT, St.cells_size]; decide)
      have hcS : ∀ i, wr.cell? ⟨wM.heap.size, i, none⟩ = s.cells[i]? := fun i => by rw [blk_cell, hS]
      have hcT : ∀ i, wr.cell? ⟨wS.heap.size, i, none⟩ = tt.cells[i]? := fun i => by rw [blk_cell, hT]
      by_cases hlt : k < 11
      · by_cases hkj : k = j
        · subst hkj
          have hsame : tt.r k = v := by rw [hrth.out, if_pos rfl]
          as_aux_lemma =>
            go_wp2_with fail
            refine wp_region_class (StSetC wS.heap.size wM.heap.size w.heap.size k v (s.r k) v wr) (by kernel_rfl) (by as_aux_lemma => kernel_rfl) ?_ ?_
            · refine ⟨?_, ?_, ?_, ?_, ?_, ?_, ?_, ?_, ?_, ?_, ?_, ?_, ?_, ?_, ?_, ?_, ?_, ?_, ?_, ?_, ?_, (by repeat' (first | (with_reducible exact Below.refl _ _) | (with_reducible assumption) | (with_reducible refine Below.alloc ?_ ?_ _) | (with_reducible refine Below.setCell ?_ ?_ _) | (with_reducible refine Below.drew ?_) | (with_reducible refine below_dn ?_ _) | (with_reducible refine Below.trans ?_ (Below.mono (by assumption) ?_)) | go_size))⟩
              all_goals first | (intro i; simp [*, go_sem, ↓IntWalk.iteOmega]; done) | (simp [*, go_sem, ↓IntWalk.iteOmega]; done)
            intro hN
            (try simp only [List.append])
            repeat (first
              | go_big_quiet_skip
              | (go_big_quiet_want
                 first
                   | ((first | (refine quiet_load_Val rfl rfl (fun w' hC => by obtain ⟨k0, k1, k2, k3, k4, k5, k6, k7, k8, k9, k10, k11, k12, k13, k14, k15, k16, k17, k18, k19, k20, k21⟩ := hC; exact ⟨by assumption, by assumption, by assumption, by assumption, by assumption, by assumption, by assumption⟩) ?_) | (refine quiet_load_W rfl rfl (fun w' hC => by obtain ⟨k0, k1, k2, k3, k4, k5, k6, k7, k8, k9, k10, k11, k12, k13, k14, k15, k16, k17, k18, k19, k20, k21⟩ := hC; assumption) ?_))
                      simp only [Act.put, List.setIfInBounds_toArray, List.set_cons_succ, List.set_cons_zero]
                      go_big_quiet_on)
                   | (go_big_quiet_op
                      first
                        | go_big_quiet_on
                        | (apply Exists.intro
                           refine ⟨fun w' hC => ?_, ?_⟩
                           · (first | fail)
                             (try simp only [Vl.eta])
                             exact ⟨rfl, by first | exact hC | exact StSetC_keep _ _ hC hb1⟩
                           go_big_quiet_on))))
            refine wpQuiet_nil ?_
            intro w9 hC
            obtain ⟨k0, k1, k2, k3, k4, k5, k6, k7, k8, k9, k10, k11, k12, k13, k14, k15, k16, k17, k18, k19, k20, k21⟩ := hC
            obtain ⟨hc9, hf9, hz9⟩ := bcell k21
            have hk9 := bblk k21
            go_wp2
            refine ⟨⟨k + 1, by omega, by simp, (by simp [*, go_sem, ↓IntWalk.iteOmega]), (by simp [*, go_sem, ↓IntWalk.iteOmega]), (by simp [*, go_sem, ↓IntWalk.iteOmega]), (by simp [*, go_sem, ↓IntWalk.iteOmega]), (by simp [*, go_sem, ↓IntWalk.iteOmega]), (by simp [*, go_sem, ↓IntWalk.iteOmega]), (by simp [*, go_sem, ↓IntWalk.iteOmega]), (by simp [*, go_sem, ↓IntWalk.iteOmega]), (by simp [*, go_sem, ↓IntWalk.iteOmega]), (by repeat' (first | (with_reducible exact Below.refl _ _) | (with_reducible assumption) | (with_reducible refine Below.alloc ?_ ?_ _) | (with_reducible refine Below.setCell ?_ ?_ _) | (with_reducible refine below_setRow ?_ ?_) | (with_reducible refine Below.drew ?_) | (with_reducible refine below_dn ?_ _) | (with_reducible refine Below.trans ?_ (Below.mono (by assumption) ?_)) | go_size))⟩, by simp [intOf]; omega⟩
        · have hsame : tt.r k = s.r k := by rw [hrth.out, if_neg hkj]
          have hkj1 : ((k : Int) != (j : Int)) = true := by simp; omega
          have hkj2 : ((k : Int) == (j : Int)) = false := by simp; omega
          clear hkj
          as_aux_lemma =>
            go_wp2_with fail
            refine wp_region_class (StSetC wS.heap.size wM.heap.size w.heap.size k (s.r k) (s.r k) v wr) (by kernel_rfl) (by as_aux_lemma => kernel_rfl) ?_ ?_
            · refine ⟨?_, ?_, ?_, ?_, ?_, ?_, ?_, ?_, ?_, ?_, ?_, ?_, ?_, ?_, ?_, ?_, ?_, ?_, ?_, ?_, ?_, (by repeat' (first | (with_reducible exact Below.refl _ _) | (with_reducible assumption) | (with_reducible refine Below.alloc ?_ ?_ _) | (with_reducible refine Below.setCell ?_ ?_ _) | (with_reducible refine Below.drew ?_) | (with_reducible refine below_dn ?_ _) | (with_reducible refine Below.trans ?_ (Below.mono (by assumption) ?_)) | go_size))⟩
              all_goals first | (intro i; simp [*, go_sem, ↓IntWalk.iteOmega]; done) | (simp [*, go_sem, ↓IntWalk.iteOmega]; done)
            intro hN
            (try simp only [List.append])
            repeat (first
              | go_big_quiet_skip
              | (go_big_quiet_want
                 first
                   | ((first | (refine quiet_load_Val rfl rfl (fun w' hC => by obtain ⟨k0, k1, k2, k3, k4, k5, k6, k7, k8, k9, k10, k11, k12, k13, k14, k15, k16, k17, k18, k19, k20, k21⟩ := hC; exact ⟨by assumption, by assumption, by assumption, by assumption, by assumption, by assumption, by assumption⟩) ?_) | (refine quiet_load_W rfl rfl (fun w' hC => by obtain ⟨k0, k1, k2, k3, k4, k5, k6, k7, k8, k9, k10, k11, k12, k13, k14, k15, k16, k17, k18, k19, k20, k21⟩ := hC; assumption) ?_))
                      simp only [Act.put, List.setIfInBounds_toArray, List.set_cons_succ, List.set_cons_zero]
                      go_big_quiet_on)
                   | (go_big_quiet_op
                      first
                        | go_big_quiet_on
                        | (apply Exists.intro
                           refine ⟨fun w' hC => ?_, ?_⟩
                           · (first | fail)
                             (try simp only [Vl.eta])
                             exact ⟨rfl, by first | exact hC | exact StSetC_keep _ _ hC hb1⟩
                           go_big_quiet_on))))
            refine wpQuiet_nil ?_
            intro w9 hC
            obtain ⟨k0, k1, k2, k3, k4, k5, k6, k7, k8, k9, k10, k11, k12, k13, k14, k15, k16, k17, k18, k19, k20, k21⟩ := hC
            obtain ⟨hc9, hf9, hz9⟩ := bcell k21
            have hk9 := bblk k21
            go_wp2
            refine ⟨⟨k + 1, by omega, by simp, (by simp [*, go_sem, ↓IntWalk.iteOmega]), (by simp [*, go_sem, ↓IntWalk.iteOmega]), (by simp [*, go_sem, ↓IntWalk.iteOmega]), (by simp [*, go_sem, ↓IntWalk.iteOmega]), (by simp [*, go_sem, ↓IntWalk.iteOmega]), (by simp [*, go_sem, ↓IntWalk.iteOmega]), (by simp [*, go_sem, ↓IntWalk.iteOmega]), (by simp [*, go_sem, ↓IntWalk.iteOmega]), (by simp [*, go_sem, ↓IntWalk.iteOmega]), (by repeat' (first | (with_reducible exact Below.refl _ _) | (with_reducible assumption) | (with_reducible refine Below.alloc ?_ ?_ _) | (with_reducible refine Below.setCell ?_ ?_ _) | (with_reducible refine below_setRow ?_ ?_) | (with_reducible refine Below.drew ?_) | (with_reducible refine below_dn ?_ _) | (with_reducible refine Below.trans ?_ (Below.mono (by assumption) ?_)) | go_size))⟩, by simp [intOf]; omega⟩
      · obtain rfl : k = 11 := by omega
        have hbr := hbk1
        rw [show ((11 : Nat) : Int) = 11 from rfl]
        go_upto_region 12 with fail
        go_cut [12, 13] (fun sg sh wx => ∃ r : Nat, sg = .pointer (some ⟨r, 0, none⟩) ∧ sh = .int .i64 0 ∧ StSetD s tt wM.heap.size wS.heap.size w wx ∧ blk wx r = s.cells)
        case first =>
          have hj1 : (j : Int) < 11 := by omega
          have hj2 : (j : Int) < ((11 : Nat) : Int) := by omega
          have hj3 : (0 : Int) ≤ (j : Int) := by omega
          as_aux_lemma =>
            have HC : StSetD s tt wM.heap.size wS.heap.size w wr := by
              refine ⟨?_, ?_, (by repeat' (first | (with_reducible exact Below.refl _ _) | (with_reducible assumption) | (with_reducible refine Below.alloc ?_ ?_ _) | (with_reducible refine Below.setCell ?_ ?_ _) | (with_reducible refine below_setRow ?_ ?_) | (with_reducible refine Below.drew ?_) | (with_reducible refine below_dn ?_ _) | (with_reducible refine Below.trans ?_ (Below.mono (by assumption) ?_)) | go_size))⟩
              all_goals first | (simp [*, go_sem, ↓IntWalk.iteOmega]; done)
            go_region_held3 (fun w' => blk w' wM.heap.size = s.cells ∧ blk w' wS.heap.size = tt.cells ∧ Below w.heap.size w w') (((refine StSetD_keep  _ _ HC ?_); (repeat' (first | (with_reducible exact Below.refl _ _) | (with_reducible assumption) | (with_reducible refine Below.alloc ?_ ?_ _) | (with_reducible refine Below.setCell ?_ ?_ _) | (with_reducible refine below_setRow ?_ ?_) | (with_reducible refine Below.drew ?_) | (with_reducible refine below_dn ?_ _) | (with_reducible refine Below.trans ?_ (Below.mono (by assumption) ?_)) | go_size)))) ((first | (go_at_call 12; (with_reducible refine (tset_c' _ _ _ _ _ _ _ _ _ _).mono ?_); rintro e w1 ⟨rfl, hb1⟩; obtain ⟨hc1, hf1, hz1⟩ := bcell hb1; have hk1 := bblk hb1; (try simp only [World.size_alloc, World.size_setCell, World.size_drew, setRow_size] at hc1 hf1 hz1 hk1); (try simp only [Vl.eta, Tn.eta, Sp.eta, Fa.eta, hbk1.out, hbk2.out, if_true]))))
            all_goals (go_wp2_with fail; go_meet; refine ⟨_, rfl, rfl, StSetD_keep _ _ HC (by repeat' (first | (with_reducible exact Below.refl _ _) | (with_reducible assumption) | (with_reducible refine Below.alloc ?_ ?_ _) | (with_reducible refine Below.setCell ?_ ?_ _) | (with_reducible refine below_setRow ?_ ?_) | (with_reducible refine Below.drew ?_) | (with_reducible refine below_dn ?_ _) | (with_reducible refine Below.trans ?_ (Below.mono (by assumption) ?_)) | go_size)), ?_⟩ <;> (simp [*, go_sem, ↓IntWalk.iteOmega]; done))
        case rest =>
          obtain ⟨r, rfl, rfl, hC, g0⟩ := hcut
          obtain ⟨m0, m1, m2⟩ := hC
          as_aux_lemma =>
            go_wp2
            go_ret
            exact ⟨rfl, m2⟩

end Hk
