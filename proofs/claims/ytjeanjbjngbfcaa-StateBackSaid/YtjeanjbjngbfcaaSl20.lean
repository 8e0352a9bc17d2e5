/- The statement StateBack of the Go text: it returns true, and old memory is as it was. No condition but the bounds of the arguments' kinds, and what stands in memory. -/
import Derived.Test.YtjeanjbjngbfcaaProg
import Derived.Test.YtjeanjbjngbfcaaGp
import Derived.Test.YtjeanjbjngbfcaaStBk
import Derived.Test.YtjeanjbjngbfcaaSt1
import Derived.Test.YtjeanjbjngbfcaaSt2
import Derived.Test.YtjeanjbjngbfcaaSt3
import Derived.Test.YtjeanjbjngbfcaaSt5
import Derived.Test.YtjeanjbjngbfcaaSt6
import Derived.Test.YtjeanjbjngbfcaaSt7
import Derived.Test.YtjeanjbjngbfcaaSt8
import Derived.Test.YtjeanjbjngbfcaaSt9
import Derived.Test.YtjeanjbjngbfcaaSt11
import Derived.Test.YtjeanjbjngbfcaaStk
import Derived.Test.YtjeanjbjngbfcaaSteq
import Derived.Test.YtjeanjbjngbfcaaLds
import Derived.Test.YtjeanjbjngbfcaaSl13
import Derived.Test.YtjeanjbjngbfcaaSl14
import Derived.Test.YtjeanjbjngbfcaaSl15
import Derived.Test.YtjeanjbjngbfcaaSl16
import Derived.Test.YtjeanjbjngbfcaaGl
namespace Hk
open Go Go.RowKit Go.Proofs
set_option linter.unusedSimpArgs false
set_option linter.unusedVariables false
set_option maxRecDepth 100000
attribute [go_sem] Tn.eta Sp.eta Fa.eta Vl.eta
attribute [-go_sem] zero_cells
def StBackC (bt bs b0 k : Nat) (x y : Sl) (o : Int) (w : World) (w' : World) : Prop := w'.cell? ⟨bt, 77 + k * 8, none⟩ = some (.int .u8 x.v.k) ∧ w'.cell? ⟨bt, 77 + k * 8 + 1, none⟩ = some (.int .u64 (N x.v.f.t.v)) ∧ w'.cell? ⟨bt, 77 + k * 8 + 2, none⟩ = some (.int .u64 (N x.v.f.t.m)) ∧ w'.cell? ⟨bt, 77 + k * 8 + 3, none⟩ = some (.int .u64 (N x.v.f.s.lo)) ∧ w'.cell? ⟨bt, 77 + k * 8 + 4, none⟩ = some (.int .u64 (N x.v.f.s.hi)) ∧ w'.cell? ⟨bt, 77 + k * 8 + 5, none⟩ = some (.int .i64 x.v.i) ∧ w'.cell? ⟨bt, 77 + k * 8 + 6, none⟩ = some (.int .i64 x.v.off) ∧ w'.cell? ⟨bt, 77 + k * 8 + 7, none⟩ = some (.int .u8 (N8 x.p)) ∧ w'.cell? ⟨bs, 77 + k * 8, none⟩ = some (.int .u8 y.v.k) ∧ w'.cell? ⟨bs, 77 + k * 8 + 1, none⟩ = some (.int .u64 (N y.v.f.t.v)) ∧ w'.cell? ⟨bs, 77 + k * 8 + 2, none⟩ = some (.int .u64 (N y.v.f.t.m)) ∧ w'.cell? ⟨bs, 77 + k * 8 + 3, none⟩ = some (.int .u64 (N y.v.f.s.lo)) ∧ w'.cell? ⟨bs, 77 + k * 8 + 4, none⟩ = some (.int .u64 (N y.v.f.s.hi)) ∧ w'.cell? ⟨bs, 77 + k * 8 + 5, none⟩ = some (.int .i64 y.v.i) ∧ w'.cell? ⟨bs, 77 + k * 8 + 6, none⟩ = some (.int .i64 y.v.off) ∧ w'.cell? ⟨bs, 77 + k * 8 + 7, none⟩ = some (.int .u8 (N8 y.p)) ∧ w'.cell? ⟨b0, 1, none⟩ = some (.int .i64 o) ∧ Below w.heap.size w w'
theorem StBackC_keep {bt bs b0 k : Nat} {x y : Sl} {o : Int} {w : World} (w' w1 : World) (h : StBackC bt bs b0 k x y o w w') (hb : Below w'.heap.size w' w1) : StBackC bt bs b0 k x y o w w1 := by
  obtain ⟨k0, k1, k2, k3, k4, k5, k6, k7, k8, k9, k10, k11, k12, k13, k14, k15, k16, k17⟩ := h
  exact ⟨cell_keep hb k0, cell_keep hb k1, cell_keep hb k2, cell_keep hb k3, cell_keep hb k4, cell_keep hb k5, cell_keep hb k6, cell_keep hb k7, cell_keep hb k8, cell_keep hb k9, cell_keep hb k10, cell_keep hb k11, cell_keep hb k12, cell_keep hb k13, cell_keep hb k14, cell_keep hb k15, cell_keep hb k16, below_next k17 hb⟩

set_option maxHeartbeats 8000000 in
theorem stateBack_walk (p : Option Addr) (len cap : Nat) (hlen : len ≤ 9223372036854775807) (L : Nat → Ac) (ak : Int) (_ : 0 ≤ ak ∧ ak ≤ 255) (o : Int) (_ : -9223372036854775808 ≤ o ∧ o ≤ 9223372036854775807) (n : Int) (_ : -9223372036854775808 ≤ n ∧ n ≤ 9223372036854775807) (v : Vl) (w : World) (hA : Acts w p len L) : Calls Try.prog 4 #[.slice p len cap, .agg #[.int .u8 ak, .int .i64 o, .int .i64 n, .int .u8 v.k, .int .u64 (N v.f.t.v), .int .u64 (N v.f.t.m), .int .u64 (N v.f.s.lo), .int .u64 (N v.f.s.hi), .int .i64 v.i, .int .i64 v.off]] w fun e w' => e = .returned (.bool true) ∧ Below w.heap.size w w' := by
  obtain ⟨z0, hz0⟩ : ∃ z, Hid (St.zero = z) := ⟨_, Lib.hid rfl⟩
  have hzc : Try.zeroCells38 = z0.cells := by rw [← hz0.out]; exact zero_cells
  obtain ⟨s0, hs0⟩ : ∃ s0 : St, Hid (s0 = St.first) := ⟨_, Lib.hid rfl⟩
  obtain ⟨s, hs⟩ : ∃ s, Hid (St.madeN L len = s) := ⟨_, Lib.hid rfl⟩
  go_enter Try.func4, Try.ntmps4
  go_wp2_with fail
  refine (tshown_c _).mono ?_
  rintro e wH ⟨rfl, hbwH⟩
  obtain ⟨hcwH, hfwH, hzwH⟩ := bcell hbwH
  have hkwH := bblk hbwH
  (try simp only [World.size_alloc, World.size_setCell, World.size_drew, setRow_size] at hcwH hfwH hzwH hkwH)
  go_wp2_with fail
  refine (tmade_c0 _ _ _ hlen L s0 hs0 _ (hA.keep (by repeat' (first | (with_reducible exact Below.refl _ _) | (with_reducible assumption) | (with_reducible refine Below.alloc ?_ ?_ _) | (with_reducible refine Below.setCell ?_ ?_ _) | (with_reducible refine below_setRow ?_ ?_) | (with_reducible refine Below.drew ?_) | (with_reducible refine below_dn ?_ _) | (with_reducible refine Below.trans ?_ (Below.mono (by assumption) ?_)) | go_size)))).mono ?_
  rintro e wM ⟨rfl, hbwM⟩
  obtain ⟨hcwM, hfwM, hzwM⟩ := bcell hbwM
  have hkwM := bblk hbwM
  (try simp only [World.size_alloc, World.size_setCell, World.size_drew, setRow_size] at hcwM hfwM hzwM hkwM)
  rw [hs.out]
  go_wp2_with fail
  refine (tput_c' _ _ _ _ _ _ _ _ _ _ _).mono ?_
  rintro e wP ⟨rfl, hbwP⟩
  obtain ⟨hcwP, hfwP, hzwP⟩ := bcell hbwP
  have hkwP := bblk hbwP
  (try simp only [World.size_alloc, World.size_setCell, World.size_drew, setRow_size] at hcwP hfwP hzwP hkwP)
  (try simp only [Vl.eta, Tn.eta, Sp.eta, Fa.eta])
  have hr : s.right = true := by rw [← hs.out]; exact St.right_madeN L len
  by_cases he : s.putE o n v = 0
  · have hfl := St.put_full he
    have hge := St.put_getE he
    obtain ⟨hg8, hgs⟩ := St.put_get he
    have hrt := St.right_put he
    obtain ⟨hn4, ho0, ho5, _⟩ := St.put_sized he
    have hbits := Lib.hid (St.put_bits he)
    have helse := Lib.hid (fun i hi => St.put_else he (i := i) hi)
    have hregs : (s.put o n v).regs = s.regs := by rw [St.put_good he]; unfold St.put1; rw [regs_setV, regs_setP]
    obtain ⟨tt, htt⟩ : ∃ x, Hid (s.put o n v = x) := ⟨_, Lib.hid rfl⟩
    rw [htt.out] at hfl hge hg8 hgs hrt hregs hbits helse
    obtain ⟨gv, hgv⟩ : ∃ x, Hid (tt.get o n = x) := ⟨_, Lib.hid rfl⟩
    rw [hgv.out] at hg8 hgs
    rw [htt.out, he]
    obtain ⟨q, hq⟩ : ∃ q : Nat, o / 8 = (q : Int) := ⟨(o / 8).toNat, by omega⟩
    have hq64 : q < 64 := by omega
    go_wp2_with fail
    refine (tget_c _ _ _ _).mono ?_
    rintro e wG ⟨rfl, hbwG⟩
    obtain ⟨hcwG, hfwG, hzwG⟩ := bcell hbwG
    have hkwG := bblk hbwG
    (try simp only [World.size_alloc, World.size_setCell, World.size_drew, setRow_size] at hcwG hfwG hzwG hkwG)
    rw [hgv.out, hge]
    rcases hn4 with rfl | rfl | rfl | rfl
    · have hgk := hgs (by decide)
      clear hg8 hgs
      have hgk1 : (gv.k != 1) = false := by simp [hgk]
      go_wp2_with (first | (go_at_call 16; (with_reducible refine (tfull_c _ _ _ _).mono ?_); rintro e w1 ⟨rfl, hb1⟩; obtain ⟨hc1, hf1, hz1⟩ := bcell hb1; have hk1 := bblk hb1; (try simp only [World.size_alloc, World.size_setCell, World.size_drew, setRow_size] at hc1 hf1 hz1 hk1)) | (go_at_call 17; (with_reducible refine (tright_c _ _).mono ?_); rintro e w1 ⟨rfl, hb1⟩; obtain ⟨hc1, hf1, hz1⟩ := bcell hb1; have hk1 := bblk hb1; (try simp only [World.size_alloc, World.size_setCell, World.size_drew, setRow_size] at hc1 hf1 hz1 hk1)))
      go_loopw [87] (fun c wr => ∃ k : Nat, k ≤ 64 ∧ c = .int .i64 (k : Int) ∧ blk wr wM.heap.size = s.cells ∧ blk wr wP.heap.size = tt.cells ∧ wr.cell? ⟨w.heap.size, 1, none⟩ = some (.int .i64 o) ∧ Below w.heap.size w wr) (fun c _ => 64 - (intOf c).toNat)
      case atStart => exact ⟨0, by omega, rfl, (by simp [*, go_sem, ↓IntWalk.iteOmega]), (by simp [*, go_sem, ↓IntWalk.iteOmega]), (by simp [*, go_sem, ↓IntWalk.iteOmega]), (by repeat' (first | (with_reducible exact Below.refl _ _) | (with_reducible assumption) | (with_reducible refine Below.alloc ?_ ?_ _) | (with_reducible refine Below.setCell ?_ ?_ _) | (with_reducible refine below_setRow ?_ ?_) | (with_reducible refine Below.drew ?_) | (with_reducible refine below_dn ?_ _) | (with_reducible refine Below.trans ?_ (Below.mono (by assumption) ?_)) | go_size))⟩
      case round =>
        obtain ⟨k, hk, rfl, hS, hT, v1, hB⟩ := hrel
        have zS := blk_lt (w := wr) (b := wM.heap.size) (by rw [hS, St.cells_size]; decide)
        have zT := blk_lt (w := wr) (b := wP.heap.size) (by rw [hT, St.cells_size]; decide)
        have hcS : ∀ i, wr.cell? ⟨wM.heap.size, i, none⟩ = s.cells[i]? := fun i => by rw [blk_cell, hS]
        have hcT : ∀ i, wr.cell? ⟨wP.heap.size, i, none⟩ = tt.cells[i]? := fun i => by rw [blk_cell, hT]
        by_cases hlt : k < 64
        · have hbb1 : ((s.s k).p &&& ~~~(tt.s k).p == 0#8) = true := by rw [hbits.out k]; rfl
          have hbb2 : ((s.s k).p &&& ~~~(tt.s k).p != 0#8) = false := by rw [hbits.out k]; rfl
          have hbb3 := hbits.out k
          by_cases hkq : k = q
          · subst hkq
            as_aux_lemma =>
              go_wp2_with fail
              refine wp_region_class (StBackC wP.heap.size wM.heap.size w.heap.size k (tt.s k) (s.s k) o wr) (by kernel_rfl) (by as_aux_lemma => kernel_rfl) ?_ ?_
              · refine ⟨?_, ?_, ?_, ?_, ?_, ?_, ?_, ?_, ?_, ?_, ?_, ?_, ?_, ?_, ?_, ?_, ?_, (by repeat' (first | (with_reducible exact Below.refl _ _) | (with_reducible assumption) | (with_reducible refine Below.alloc ?_ ?_ _) | (with_reducible refine Below.setCell ?_ ?_ _) | (with_reducible refine Below.drew ?_) | (with_reducible refine below_dn ?_ _) | (with_reducible refine Below.trans ?_ (Below.mono (by assumption) ?_)) | go_size))⟩
                all_goals first | (intro i; simp [*, go_sem, ↓IntWalk.iteOmega]; done) | (simp [*, go_sem, ↓IntWalk.iteOmega]; done)
              intro hN
              (try simp only [List.append])
              repeat (first
                | go_big_quiet_skip
                | (go_big_quiet_want
                   first
                     | ((first | (refine quiet_load_Slot rfl rfl (fun w' hC => by obtain ⟨k0, k1, k2, k3, k4, k5, k6, k7, k8, k9, k10, k11, k12, k13, k14, k15, k16, k17⟩ := hC; exact ⟨by assumption, by assumption, by assumption, by assumption, by assumption, by assumption, by assumption, by assumption⟩) ?_) | (refine quiet_load_I64 rfl rfl (fun w' hC => by obtain ⟨k0, k1, k2, k3, k4, k5, k6, k7, k8, k9, k10, k11, k12, k13, k14, k15, k16, k17⟩ := hC; assumption) ?_) | (refine quiet_load_B8 rfl rfl (fun w' hC => by obtain ⟨k0, k1, k2, k3, k4, k5, k6, k7, k8, k9, k10, k11, k12, k13, k14, k15, k16, k17⟩ := hC; assumption) ?_) | (refine quiet_load_W rfl rfl (fun w' hC => by obtain ⟨k0, k1, k2, k3, k4, k5, k6, k7, k8, k9, k10, k11, k12, k13, k14, k15, k16, k17⟩ := hC; assumption) ?_))
                        simp only [Act.put, List.setIfInBounds_toArray, List.set_cons_succ, List.set_cons_zero]
                        go_big_quiet_on)
                     | (go_big_quiet_op
                        first
                          | go_big_quiet_on
                          | (apply Exists.intro
                             refine ⟨fun w' hC => ?_, ?_⟩
                             · (first | fail)
                               (try simp only [Vl.eta])
                               exact ⟨rfl, by first | exact hC | exact StBackC_keep _ _ hC hb1⟩
                             go_big_quiet_on))))
              refine wpQuiet_nil ?_
              intro w9 hC
              obtain ⟨k0, k1, k2, k3, k4, k5, k6, k7, k8, k9, k10, k11, k12, k13, k14, k15, k16, k17⟩ := hC
              obtain ⟨hc9, hf9, hz9⟩ := bcell k17
              have hk9 := bblk k17
              go_wp2
              refine ⟨⟨k + 1, by omega, by simp, (by simp [*, go_sem, ↓IntWalk.iteOmega]), (by simp [*, go_sem, ↓IntWalk.iteOmega]), (by simp [*, go_sem, ↓IntWalk.iteOmega]), (by repeat' (first | (with_reducible exact Below.refl _ _) | (with_reducible assumption) | (with_reducible refine Below.alloc ?_ ?_ _) | (with_reducible refine Below.setCell ?_ ?_ _) | (with_reducible refine below_setRow ?_ ?_) | (with_reducible refine Below.drew ?_) | (with_reducible refine below_dn ?_ _) | (with_reducible refine Below.trans ?_ (Below.mono (by assumption) ?_)) | go_size))⟩, by simp [intOf]; omega⟩
          · have hsame : tt.s k = s.s k := helse.out k (by omega)
            have hk1 : ((k : Int) != (q : Int)) = true := by simp; omega
            have hk2 : ((k : Int) == (q : Int)) = false := by simp; omega
            clear hkq
            rw [hsame] at hbb1 hbb2 hbb3
            as_aux_lemma =>
              go_wp2_with fail
              refine wp_region_class (StBackC wP.heap.size wM.heap.size w.heap.size k (s.s k) (s.s k) o wr) (by kernel_rfl) (by as_aux_lemma => kernel_rfl) ?_ ?_
              · refine ⟨?_, ?_, ?_, ?_, ?_, ?_, ?_, ?_, ?_, ?_, ?_, ?_, ?_, ?_, ?_, ?_, ?_, (by repeat' (first | (with_reducible exact Below.refl _ _) | (with_reducible assumption) | (with_reducible refine Below.alloc ?_ ?_ _) | (with_reducible refine Below.setCell ?_ ?_ _) | (with_reducible refine Below.drew ?_) | (with_reducible refine below_dn ?_ _) | (with_reducible refine Below.trans ?_ (Below.mono (by assumption) ?_)) | go_size))⟩
                all_goals first | (intro i; simp [*, go_sem, ↓IntWalk.iteOmega]; done) | (simp [*, go_sem, ↓IntWalk.iteOmega]; done)
              intro hN
              (try simp only [List.append])
              repeat (first
                | go_big_quiet_skip
                | (go_big_quiet_want
                   first
                     | ((first | (refine quiet_load_Slot rfl rfl (fun w' hC => by obtain ⟨k0, k1, k2, k3, k4, k5, k6, k7, k8, k9, k10, k11, k12, k13, k14, k15, k16, k17⟩ := hC; exact ⟨by assumption, by assumption, by assumption, by assumption, by assumption, by assumption, by assumption, by assumption⟩) ?_) | (refine quiet_load_I64 rfl rfl (fun w' hC => by obtain ⟨k0, k1, k2, k3, k4, k5, k6, k7, k8, k9, k10, k11, k12, k13, k14, k15, k16, k17⟩ := hC; assumption) ?_) | (refine quiet_load_B8 rfl rfl (fun w' hC => by obtain ⟨k0, k1, k2, k3, k4, k5, k6, k7, k8, k9, k10, k11, k12, k13, k14, k15, k16, k17⟩ := hC; assumption) ?_) | (refine quiet_load_W rfl rfl (fun w' hC => by obtain ⟨k0, k1, k2, k3, k4, k5, k6, k7, k8, k9, k10, k11, k12, k13, k14, k15, k16, k17⟩ := hC; assumption) ?_))
                        simp only [Act.put, List.setIfInBounds_toArray, List.set_cons_succ, List.set_cons_zero]
                        go_big_quiet_on)
                     | (go_big_quiet_op
                        first
                          | go_big_quiet_on
                          | (apply Exists.intro
                             refine ⟨fun w' hC => ?_, ?_⟩
                             · (first | fail)
                               (try simp only [Vl.eta])
                               exact ⟨rfl, by first | exact hC | exact StBackC_keep _ _ hC hb1⟩
                             go_big_quiet_on))))
              refine wpQuiet_nil ?_
              intro w9 hC
              obtain ⟨k0, k1, k2, k3, k4, k5, k6, k7, k8, k9, k10, k11, k12, k13, k14, k15, k16, k17⟩ := hC
              obtain ⟨hc9, hf9, hz9⟩ := bcell k17
              have hk9 := bblk k17
              go_wp2
              refine ⟨⟨k + 1, by omega, by simp, (by simp [*, go_sem, ↓IntWalk.iteOmega]), (by simp [*, go_sem, ↓IntWalk.iteOmega]), (by simp [*, go_sem, ↓IntWalk.iteOmega]), (by repeat' (first | (with_reducible exact Below.refl _ _) | (with_reducible assumption) | (with_reducible refine Below.alloc ?_ ?_ _) | (with_reducible refine Below.setCell ?_ ?_ _) | (with_reducible refine below_setRow ?_ ?_) | (with_reducible refine Below.drew ?_) | (with_reducible refine below_dn ?_ _) | (with_reducible refine Below.trans ?_ (Below.mono (by assumption) ?_)) | go_size))⟩, by simp [intOf]; omega⟩
        · obtain rfl : k = 64 := by omega
          rw [show ((64 : Nat) : Int) = 64 from rfl]
          go_wp2
          go_ret
          exact ⟨rfl, (by repeat' (first | (with_reducible exact Below.refl _ _) | (with_reducible assumption) | (with_reducible refine Below.alloc ?_ ?_ _) | (with_reducible refine Below.setCell ?_ ?_ _) | (with_reducible refine below_setRow ?_ ?_) | (with_reducible refine Below.drew ?_) | (with_reducible refine below_dn ?_ _) | (with_reducible refine Below.trans ?_ (Below.mono (by assumption) ?_)) | go_size))⟩
    · have hgk := hgs (by decide)
      clear hg8 hgs
      have hgk1 : (gv.k != 1) = false := by simp [hgk]
      go_wp2_with (first | (go_at_call 16; (with_reducible refine (tfull_c _ _ _ _).mono ?_); rintro e w1 ⟨rfl, hb1⟩; obtain ⟨hc1, hf1, hz1⟩ := bcell hb1; have hk1 := bblk hb1; (try simp only [World.size_alloc, World.size_setCell, World.size_drew, setRow_size] at hc1 hf1 hz1 hk1)) | (go_at_call 17; (with_reducible refine (tright_c _ _).mono ?_); rintro e w1 ⟨rfl, hb1⟩; obtain ⟨hc1, hf1, hz1⟩ := bcell hb1; have hk1 := bblk hb1; (try simp only [World.size_alloc, World.size_setCell, World.size_drew, setRow_size] at hc1 hf1 hz1 hk1)))
      go_loopw [87] (fun c wr => ∃ k : Nat, k ≤ 64 ∧ c = .int .i64 (k : Int) ∧ blk wr wM.heap.size = s.cells ∧ blk wr wP.heap.size = tt.cells ∧ wr.cell? ⟨w.heap.size, 1, none⟩ = some (.int .i64 o) ∧ Below w.heap.size w wr) (fun c _ => 64 - (intOf c).toNat)
      case atStart => exact ⟨0, by omega, rfl, (by simp [*, go_sem, ↓IntWalk.iteOmega]), (by simp [*, go_sem, ↓IntWalk.iteOmega]), (by simp [*, go_sem, ↓IntWalk.iteOmega]), (by repeat' (first | (with_reducible exact Below.refl _ _) | (with_reducible assumption) | (with_reducible refine Below.alloc ?_ ?_ _) | (with_reducible refine Below.setCell ?_ ?_ _) | (with_reducible refine below_setRow ?_ ?_) | (with_reducible refine Below.drew ?_) | (with_reducible refine below_dn ?_ _) | (with_reducible refine Below.trans ?_ (Below.mono (by assumption) ?_)) | go_size))⟩
      case round =>
        obtain ⟨k, hk, rfl, hS, hT, v1, hB⟩ := hrel
        have zS := blk_lt (w := wr) (b := wM.heap.size) (by rw [hS, St.cells_size]; decide)
        have zT := blk_lt (w := wr) (b := wP.heap.size) (by rw [hT, St.cells_size]; decide)
        have hcS : ∀ i, wr.cell? ⟨wM.heap.size, i, none⟩ = s.cells[i]? := fun i => by rw [blk_cell, hS]
        have hcT : ∀ i, wr.cell? ⟨wP.heap.size, i, none⟩ = tt.cells[i]? := fun i => by rw [blk_cell, hT]
        by_cases hlt : k < 64
        · have hbb1 : ((s.s k).p &&& ~~~(tt.s k).p == 0#8) = true := by rw [hbits.out k]; rfl
          have hbb2 : ((s.s k).p &&& ~~~(tt.s k).p != 0#8) = false := by rw [hbits.out k]; rfl
          have hbb3 := hbits.out k
          by_cases hkq : k = q
          · subst hkq
            as_aux_lemma =>
              go_wp2_with fail
              refine wp_region_class (StBackC wP.heap.size wM.heap.size w.heap.size k (tt.s k) (s.s k) o wr) (by kernel_rfl) (by as_aux_lemma => kernel_rfl) ?_ ?_
              · refine ⟨?_, ?_, ?_, ?_, ?_, ?_, ?_, ?_, ?_, ?_, ?_, ?_, ?_, ?_, ?_, ?_, ?_, (by repeat' (first | (with_reducible exact Below.refl _ _) | (with_reducible assumption) | (with_reducible refine Below.alloc ?_ ?_ _) | (with_reducible refine Below.setCell ?_ ?_ _) | (with_reducible refine Below.drew ?_) | (with_reducible refine below_dn ?_ _) | (with_reducible refine Below.trans ?_ (Below.mono (by assumption) ?_)) | go_size))⟩
                all_goals first | (intro i; simp [*, go_sem, ↓IntWalk.iteOmega]; done) | (simp [*, go_sem, ↓IntWalk.iteOmega]; done)
              intro hN
              (try simp only [List.append])
              repeat (first
                | go_big_quiet_skip
                | (go_big_quiet_want
                   first
                     | ((first | (refine quiet_load_Slot rfl rfl (fun w' hC => by obtain ⟨k0, k1, k2, k3, k4, k5, k6, k7, k8, k9, k10, k11, k12, k13, k14, k15, k16, k17⟩ := hC; exact ⟨by assumption, by assumption, by assumption, by assumption, by assumption, by assumption, by assumption, by assumption⟩) ?_) | (refine quiet_load_I64 rfl rfl (fun w' hC => by obtain ⟨k0, k1, k2, k3, k4, k5, k6, k7, k8, k9, k10, k11, k12, k13, k14, k15, k16, k17⟩ := hC; assumption) ?_) | (refine quiet_load_B8 rfl rfl (fun w' hC => by obtain ⟨k0, k1, k2, k3, k4, k5, k6, k7, k8, k9, k10, k11, k12, k13, k14, k15, k16, k17⟩ := hC; assumption) ?_) | (refine quiet_load_W rfl rfl (fun w' hC => by obtain ⟨k0, k1, k2, k3, k4, k5, k6, k7, k8, k9, k10, k11, k12, k13, k14, k15, k16, k17⟩ := hC; assumption) ?_))
                        simp only [Act.put, List.setIfInBounds_toArray, List.set_cons_succ, List.set_cons_zero]
                        go_big_quiet_on)
                     | (go_big_quiet_op
                        first
                          | go_big_quiet_on
                          | (apply Exists.intro
                             refine ⟨fun w' hC => ?_, ?_⟩
                             · (first | fail)
                               (try simp only [Vl.eta])
                               exact ⟨rfl, by first | exact hC | exact StBackC_keep _ _ hC hb1⟩
                             go_big_quiet_on))))
              refine wpQuiet_nil ?_
              intro w9 hC
              obtain ⟨k0, k1, k2, k3, k4, k5, k6, k7, k8, k9, k10, k11, k12, k13, k14, k15, k16, k17⟩ := hC
              obtain ⟨hc9, hf9, hz9⟩ := bcell k17
              have hk9 := bblk k17
              go_wp2
              refine ⟨⟨k + 1, by omega, by simp, (by simp [*, go_sem, ↓IntWalk.iteOmega]), (by simp [*, go_sem, ↓IntWalk.iteOmega]), (by simp [*, go_sem, ↓IntWalk.iteOmega]), (by repeat' (first | (with_reducible exact Below.refl _ _) | (with_reducible assumption) | (with_reducible refine Below.alloc ?_ ?_ _) | (with_reducible refine Below.setCell ?_ ?_ _) | (with_reducible refine below_setRow ?_ ?_) | (with_reducible refine Below.drew ?_) | (with_reducible refine below_dn ?_ _) | (with_reducible refine Below.trans ?_ (Below.mono (by assumption) ?_)) | go_size))⟩, by simp [intOf]; omega⟩
          · have hsame : tt.s k = s.s k := helse.out k (by omega)
            have hk1 : ((k : Int) != (q : Int)) = true := by simp; omega
            have hk2 : ((k : Int) == (q : Int)) = false := by simp; omega
            clear hkq
            rw [hsame] at hbb1 hbb2 hbb3
            as_aux_lemma =>
              go_wp2_with fail
              refine wp_region_class (StBackC wP.heap.size wM.heap.size w.heap.size k (s.s k) (s.s k) o wr) (by kernel_rfl) (by as_aux_lemma => kernel_rfl) ?_ ?_
              · refine ⟨?_, ?_, ?_, ?_, ?_, ?_, ?_, ?_, ?_, ?_, ?_, ?_, ?_, ?_, ?_, ?_, ?_, (by repeat' (first | (with_reducible exact Below.refl _ _) | (with_reducible assumption) | (with_reducible refine Below.alloc ?_ ?_ _) | (with_reducible refine Below.setCell ?_ ?_ _) | (with_reducible refine Below.drew ?_) | (with_reducible refine below_dn ?_ _) | (with_reducible refine Below.trans ?_ (Below.mono (by assumption) ?_)) | go_size))⟩
                all_goals first | (intro i; simp [*, go_sem, ↓IntWalk.iteOmega]; done) | (simp [*, go_sem, ↓IntWalk.iteOmega]; done)
              intro hN
              (try simp only [List.append])
              repeat (first
                | go_big_quiet_skip
                | (go_big_quiet_want
                   first
                     | ((first | (refine quiet_load_Slot rfl rfl (fun w' hC => by obtain ⟨k0, k1, k2, k3, k4, k5, k6, k7, k8, k9, k10, k11, k12, k13, k14, k15, k16, k17⟩ := hC; exact ⟨by assumption, by assumption, by assumption, by assumption, by assumption, by assumption, by assumption, by assumption⟩) ?_) | (refine quiet_load_I64 rfl rfl (fun w' hC => by obtain ⟨k0, k1, k2, k3, k4, k5, k6, k7, k8, k9, k10, k11, k12, k13, k14, k15, k16, k17⟩ := hC; assumption) ?_) | (refine quiet_load_B8 rfl rfl (fun w' hC => by obtain ⟨k0, k1, k2, k3, k4, k5, k6, k7, k8, k9, k10, k11, k12, k13, k14, k15, k16, k17⟩ := hC; assumption) ?_) | (refine quiet_load_W rfl rfl (fun w' hC => by obtain ⟨k0, k1, k2, k3, k4, k5, k6, k7, k8, k9, k10, k11, k12, k13, k14, k15, k16, k17⟩ := hC; assumption) ?_))
                        simp only [Act.put, List.setIfInBounds_toArray, List.set_cons_succ, List.set_cons_zero]
                        go_big_quiet_on)
                     | (go_big_quiet_op
                        first
                          | go_big_quiet_on
                          | (apply Exists.intro
                             refine ⟨fun w' hC => ?_, ?_⟩
                             · (first | fail)
                               (try simp only [Vl.eta])
                               exact ⟨rfl, by first | exact hC | exact StBackC_keep _ _ hC hb1⟩
                             go_big_quiet_on))))
              refine wpQuiet_nil ?_
              intro w9 hC
              obtain ⟨k0, k1, k2, k3, k4, k5, k6, k7, k8, k9, k10, k11, k12, k13, k14, k15, k16, k17⟩ := hC
              obtain ⟨hc9, hf9, hz9⟩ := bcell k17
              have hk9 := bblk k17
              go_wp2
              refine ⟨⟨k + 1, by omega, by simp, (by simp [*, go_sem, ↓IntWalk.iteOmega]), (by simp [*, go_sem, ↓IntWalk.iteOmega]), (by simp [*, go_sem, ↓IntWalk.iteOmega]), (by repeat' (first | (with_reducible exact Below.refl _ _) | (with_reducible assumption) | (with_reducible refine Below.alloc ?_ ?_ _) | (with_reducible refine Below.setCell ?_ ?_ _) | (with_reducible refine below_setRow ?_ ?_) | (with_reducible refine Below.drew ?_) | (with_reducible refine below_dn ?_ _) | (with_reducible refine Below.trans ?_ (Below.mono (by assumption) ?_)) | go_size))⟩, by simp [intOf]; omega⟩
        · obtain rfl : k = 64 := by omega
          rw [show ((64 : Nat) : Int) = 64 from rfl]
          go_wp2
          go_ret
          exact ⟨rfl, (by repeat' (first | (with_reducible exact Below.refl _ _) | (with_reducible assumption) | (with_reducible refine Below.alloc ?_ ?_ _) | (with_reducible refine Below.setCell ?_ ?_ _) | (with_reducible refine below_setRow ?_ ?_) | (with_reducible refine Below.drew ?_) | (with_reducible refine below_dn ?_ _) | (with_reducible refine Below.trans ?_ (Below.mono (by assumption) ?_)) | go_size))⟩
    · have hgk := hgs (by decide)
      clear hg8 hgs
      have hgk1 : (gv.k != 1) = false := by simp [hgk]
      go_wp2_with (first | (go_at_call 16; (with_reducible refine (tfull_c _ _ _ _).mono ?_); rintro e w1 ⟨rfl, hb1⟩; obtain ⟨hc1, hf1, hz1⟩ := bcell hb1; have hk1 := bblk hb1; (try simp only [World.size_alloc, World.size_setCell, World.size_drew, setRow_size] at hc1 hf1 hz1 hk1)) | (go_at_call 17; (with_reducible refine (tright_c _ _).mono ?_); rintro e w1 ⟨rfl, hb1⟩; obtain ⟨hc1, hf1, hz1⟩ := bcell hb1; have hk1 := bblk hb1; (try simp only [World.size_alloc, World.size_setCell, World.size_drew, setRow_size] at hc1 hf1 hz1 hk1)))
      go_loopw [87] (fun c wr => ∃ k : Nat, k ≤ 64 ∧ c = .int .i64 (k : Int) ∧ blk wr wM.heap.size = s.cells ∧ blk wr wP.heap.size = tt.cells ∧ wr.cell? ⟨w.heap.size, 1, none⟩ = some (.int .i64 o) ∧ Below w.heap.size w wr) (fun c _ => 64 - (intOf c).toNat)
      case atStart => exact ⟨0, by omega, rfl, (by simp [*, go_sem, ↓IntWalk.iteOmega]), (by simp [*, go_sem, ↓IntWalk.iteOmega]), (by simp [*, go_sem, ↓IntWalk.iteOmega]), (by repeat' (first | (with_reducible exact Below.refl _ _) | (with_reducible assumption) | (with_reducible refine Below.alloc ?_ ?_ _) | (with_reducible refine Below.setCell ?_ ?_ _) | (with_reducible refine below_setRow ?_ ?_) | (with_reducible refine Below.drew ?_) | (with_reducible refine below_dn ?_ _) | (with_reducible refine Below.trans ?_ (Below.mono (by assumption) ?_)) | go_size))⟩
      case round =>
        obtain ⟨k, hk, rfl, hS, hT, v1, hB⟩ := hrel
        have zS := blk_lt (w := wr) (b := wM.heap.size) (by rw [hS, St.cells_size]; decide)
        have zT := blk_lt (w := wr) (b := wP.heap.size) (by rw [hT, St.cells_size]; decide)
        have hcS : ∀ i, wr.cell? ⟨wM.heap.size, i, none⟩ = s.cells[i]? := fun i => by rw [blk_cell, hS]
        have hcT : ∀ i, wr.cell? ⟨wP.heap.size, i, none⟩ = tt.cells[i]? := fun i => by rw [blk_cell, hT]
        by_cases hlt : k < 64
        · have hbb1 : ((s.s k).p &&& ~~~(tt.s k).p == 0#8) = true := by rw [hbits.out k]; rfl
          have hbb2 : ((s.s k).p &&& ~~~(tt.s k).p != 0#8) = false := by rw [hbits.out k]; rfl
          have hbb3 := hbits.out k
          by_cases hkq : k = q
          · subst hkq
            as_aux_lemma =>
              go_wp2_with fail
              refine wp_region_class (StBackC wP.heap.size wM.heap.size w.heap.size k (tt.s k) (s.s k) o wr) (by kernel_rfl) (by as_aux_lemma => kernel_rfl) ?_ ?_
              · refine ⟨?_, ?_, ?_, ?_, ?_, ?_, ?_, ?_, ?_, ?_, ?_, ?_, ?_, ?_, ?_, ?_, ?_, (by repeat' (first | (with_reducible exact Below.refl _ _) | (with_reducible assumption) | (with_reducible refine Below.alloc ?_ ?_ _) | (with_reducible refine Below.setCell ?_ ?_ _) | (with_reducible refine Below.drew ?_) | (with_reducible refine below_dn ?_ _) | (with_reducible refine Below.trans ?_ (Below.mono (by assumption) ?_)) | go_size))⟩
                all_goals first | (intro i; simp [*, go_sem, ↓IntWalk.iteOmega]; done) | (simp [*, go_sem, ↓IntWalk.iteOmega]; done)
              intro hN
              (try simp only [List.append])
              repeat (first
                | go_big_quiet_skip
                | (go_big_quiet_want
                   first
                     | ((first | (refine quiet_load_Slot rfl rfl (fun w' hC => by obtain ⟨k0, k1, k2, k3, k4, k5, k6, k7, k8, k9, k10, k11, k12, k13, k14, k15, k16, k17⟩ := hC; exact ⟨by assumption, by assumption, by assumption, by assumption, by assumption, by assumption, by assumption, by assumption⟩) ?_) | (refine quiet_load_I64 rfl rfl (fun w' hC => by obtain ⟨k0, k1, k2, k3, k4, k5, k6, k7, k8, k9, k10, k11, k12, k13, k14, k15, k16, k17⟩ := hC; assumption) ?_) | (refine quiet_load_B8 rfl rfl (fun w' hC => by obtain ⟨k0, k1, k2, k3, k4, k5, k6, k7, k8, k9, k10, k11, k12, k13, k14, k15, k16, k17⟩ := hC; assumption) ?_) | (refine quiet_load_W rfl rfl (fun w' hC => by obtain ⟨k0, k1, k2, k3, k4, k5, k6, k7, k8, k9, k10, k11, k12, k13, k14, k15, k16, k17⟩ := hC; assumption) ?_))
                        simp only [Act.put, List.setIfInBounds_toArray, List.set_cons_succ, List.set_cons_zero]
                        go_big_quiet_on)
                     | (go_big_quiet_op
                        first
                          | go_big_quiet_on
                          | (apply Exists.intro
                             refine ⟨fun w' hC => ?_, ?_⟩
                             · (first | fail)
                               (try simp only [Vl.eta])
                               exact ⟨rfl, by first | exact hC | exact StBackC_keep _ _ hC hb1⟩
                             go_big_quiet_on))))
              refine wpQuiet_nil ?_
              intro w9 hC
              obtain ⟨k0, k1, k2, k3, k4, k5, k6, k7, k8, k9, k10, k11, k12, k13, k14, k15, k16, k17⟩ := hC
              obtain ⟨hc9, hf9, hz9⟩ := bcell k17
              have hk9 := bblk k17
              go_wp2
              refine ⟨⟨k + 1, by omega, by simp, (by simp [*, go_sem, ↓IntWalk.iteOmega]), (by simp [*, go_sem, ↓IntWalk.iteOmega]), (by simp [*, go_sem, ↓IntWalk.iteOmega]), (by repeat' (first | (with_reducible exact Below.refl _ _) | (with_reducible assumption) | (with_reducible refine Below.alloc ?_ ?_ _) | (with_reducible refine Below.setCell ?_ ?_ _) | (with_reducible refine below_setRow ?_ ?_) | (with_reducible refine Below.drew ?_) | (with_reducible refine below_dn ?_ _) | (with_reducible refine Below.trans ?_ (Below.mono (by assumption) ?_)) | go_size))⟩, by simp [intOf]; omega⟩
          · have hsame : tt.s k = s.s k := helse.out k (by omega)
            have hk1 : ((k : Int) != (q : Int)) = true := by simp; omega
            have hk2 : ((k : Int) == (q : Int)) = false := by simp; omega
            clear hkq
            rw [hsame] at hbb1 hbb2 hbb3
            as_aux_lemma =>
              go_wp2_with fail
              refine wp_region_class (StBackC wP.heap.size wM.heap.size w.heap.size k (s.s k) (s.s k) o wr) (by kernel_rfl) (by as_aux_lemma => kernel_rfl) ?_ ?_
              · refine ⟨?_, ?_, ?_, ?_, ?_, ?_, ?_, ?_, ?_, ?_, ?_, ?_, ?_, ?_, ?_, ?_, ?_, (by repeat' (first | (with_reducible exact Below.refl _ _) | (with_reducible assumption) | (with_reducible refine Below.alloc ?_ ?_ _) | (with_reducible refine Below.setCell ?_ ?_ _) | (with_reducible refine Below.drew ?_) | (with_reducible refine below_dn ?_ _) | (with_reducible refine Below.trans ?_ (Below.mono (by assumption) ?_)) | go_size))⟩
                all_goals first | (intro i; simp [*, go_sem, ↓IntWalk.iteOmega]; done) | (simp [*, go_sem, ↓IntWalk.iteOmega]; done)
              intro hN
              (try simp only [List.append])
              repeat (first
                | go_big_quiet_skip
                | (go_big_quiet_want
                   first
                     | ((first | (refine quiet_load_Slot rfl rfl (fun w' hC => by obtain ⟨k0, k1, k2, k3, k4, k5, k6, k7, k8, k9, k10, k11, k12, k13, k14, k15, k16, k17⟩ := hC; exact ⟨by assumption, by assumption, by assumption, by assumption, by assumption, by assumption, by assumption, by assumption⟩) ?_) | (refine quiet_load_I64 rfl rfl (fun w' hC => by obtain ⟨k0, k1, k2, k3, k4, k5, k6, k7, k8, k9, k10, k11, k12, k13, k14, k15, k16, k17⟩ := hC; assumption) ?_) | (refine quiet_load_B8 rfl rfl (fun w' hC => by obtain ⟨k0, k1, k2, k3, k4, k5, k6, k7, k8, k9, k10, k11, k12, k13, k14, k15, k16, k17⟩ := hC; assumption) ?_) | (refine quiet_load_W rfl rfl (fun w' hC => by obtain ⟨k0, k1, k2, k3, k4, k5, k6, k7, k8, k9, k10, k11, k12, k13, k14, k15, k16, k17⟩ := hC; assumption) ?_))
                        simp only [Act.put, List.setIfInBounds_toArray, List.set_cons_succ, List.set_cons_zero]
                        go_big_quiet_on)
                     | (go_big_quiet_op
                        first
                          | go_big_quiet_on
                          | (apply Exists.intro
                             refine ⟨fun w' hC => ?_, ?_⟩
                             · (first | fail)
                               (try simp only [Vl.eta])
                               exact ⟨rfl, by first | exact hC | exact StBackC_keep _ _ hC hb1⟩
                             go_big_quiet_on))))
              refine wpQuiet_nil ?_
              intro w9 hC
              obtain ⟨k0, k1, k2, k3, k4, k5, k6, k7, k8, k9, k10, k11, k12, k13, k14, k15, k16, k17⟩ := hC
              obtain ⟨hc9, hf9, hz9⟩ := bcell k17
              have hk9 := bblk k17
              go_wp2
              refine ⟨⟨k + 1, by omega, by simp, (by simp [*, go_sem, ↓IntWalk.iteOmega]), (by simp [*, go_sem, ↓IntWalk.iteOmega]), (by simp [*, go_sem, ↓IntWalk.iteOmega]), (by repeat' (first | (with_reducible exact Below.refl _ _) | (with_reducible assumption) | (with_reducible refine Below.alloc ?_ ?_ _) | (with_reducible refine Below.setCell ?_ ?_ _) | (with_reducible refine below_setRow ?_ ?_) | (with_reducible refine Below.drew ?_) | (with_reducible refine below_dn ?_ _) | (with_reducible refine Below.trans ?_ (Below.mono (by assumption) ?_)) | go_size))⟩, by simp [intOf]; omega⟩
        · obtain rfl : k = 64 := by omega
          rw [show ((64 : Nat) : Int) = 64 from rfl]
          go_wp2
          go_ret
          exact ⟨rfl, (by repeat' (first | (with_reducible exact Below.refl _ _) | (with_reducible assumption) | (with_reducible refine Below.alloc ?_ ?_ _) | (with_reducible refine Below.setCell ?_ ?_ _) | (with_reducible refine below_setRow ?_ ?_) | (with_reducible refine Below.drew ?_) | (with_reducible refine below_dn ?_ _) | (with_reducible refine Below.trans ?_ (Below.mono (by assumption) ?_)) | go_size))⟩
    · have hgk := hg8 rfl
      clear hg8 hgs
      subst hgk
      go_wp2_with (first | (go_at_call 16; (with_reducible refine (tfull_c _ _ _ _).mono ?_); rintro e w1 ⟨rfl, hb1⟩; obtain ⟨hc1, hf1, hz1⟩ := bcell hb1; have hk1 := bblk hb1; (try simp only [World.size_alloc, World.size_setCell, World.size_drew, setRow_size] at hc1 hf1 hz1 hk1)) | (go_at_call 17; (with_reducible refine (tright_c _ _).mono ?_); rintro e w1 ⟨rfl, hb1⟩; obtain ⟨hc1, hf1, hz1⟩ := bcell hb1; have hk1 := bblk hb1; (try simp only [World.size_alloc, World.size_setCell, World.size_drew, setRow_size] at hc1 hf1 hz1 hk1)))
      go_loopw [87] (fun c wr => ∃ k : Nat, k ≤ 64 ∧ c = .int .i64 (k : Int) ∧ blk wr wM.heap.size = s.cells ∧ blk wr wP.heap.size = tt.cells ∧ wr.cell? ⟨w.heap.size, 1, none⟩ = some (.int .i64 o) ∧ Below w.heap.size w wr) (fun c _ => 64 - (intOf c).toNat)
      case atStart => exact ⟨0, by omega, rfl, (by simp [*, go_sem, ↓IntWalk.iteOmega]), (by simp [*, go_sem, ↓IntWalk.iteOmega]), (by simp [*, go_sem, ↓IntWalk.iteOmega]), (by repeat' (first | (with_reducible exact Below.refl _ _) | (with_reducible assumption) | (with_reducible refine Below.alloc ?_ ?_ _) | (with_reducible refine Below.setCell ?_ ?_ _) | (with_reducible refine below_setRow ?_ ?_) | (with_reducible refine Below.drew ?_) | (with_reducible refine below_dn ?_ _) | (with_reducible refine Below.trans ?_ (Below.mono (by assumption) ?_)) | go_size))⟩
      case round =>
        obtain ⟨k, hk, rfl, hS, hT, v1, hB⟩ := hrel
        have zS := blk_lt (w := wr) (b := wM.heap.size) (by rw [hS, St.cells_size]; decide)
        have zT := blk_lt (w := wr) (b := wP.heap.size) (by rw [hT, St.cells_size]; decide)
        have hcS : ∀ i, wr.cell? ⟨wM.heap.size, i, none⟩ = s.cells[i]? := fun i => by rw [blk_cell, hS]
        have hcT : ∀ i, wr.cell? ⟨wP.heap.size, i, none⟩ = tt.cells[i]? := fun i => by rw [blk_cell, hT]
        by_cases hlt : k < 64
        · have hbb1 : ((s.s k).p &&& ~~~(tt.s k).p == 0#8) = true := by rw [hbits.out k]; rfl
          have hbb2 : ((s.s k).p &&& ~~~(tt.s k).p != 0#8) = false := by rw [hbits.out k]; rfl
          have hbb3 := hbits.out k
          by_cases hkq : k = q
          · subst hkq
            as_aux_lemma =>
              go_wp2_with fail
              refine wp_region_class (StBackC wP.heap.size wM.heap.size w.heap.size k (tt.s k) (s.s k) o wr) (by kernel_rfl) (by as_aux_lemma => kernel_rfl) ?_ ?_
              · refine ⟨?_, ?_, ?_, ?_, ?_, ?_, ?_, ?_, ?_, ?_, ?_, ?_, ?_, ?_, ?_, ?_, ?_, (by repeat' (first | (with_reducible exact Below.refl _ _) | (with_reducible assumption) | (with_reducible refine Below.alloc ?_ ?_ _) | (with_reducible refine Below.setCell ?_ ?_ _) | (with_reducible refine Below.drew ?_) | (with_reducible refine below_dn ?_ _) | (with_reducible refine Below.trans ?_ (Below.mono (by assumption) ?_)) | go_size))⟩
                all_goals first | (intro i; simp [*, go_sem, ↓IntWalk.iteOmega]; done) | (simp [*, go_sem, ↓IntWalk.iteOmega]; done)
              intro hN
              (try simp only [List.append])
              repeat (first
                | go_big_quiet_skip
                | (go_big_quiet_want
                   first
                     | ((first | (refine quiet_load_Slot rfl rfl (fun w' hC => by obtain ⟨k0, k1, k2, k3, k4, k5, k6, k7, k8, k9, k10, k11, k12, k13, k14, k15, k16, k17⟩ := hC; exact ⟨by assumption, by assumption, by assumption, by assumption, by assumption, by assumption, by assumption, by assumption⟩) ?_) | (refine quiet_load_I64 rfl rfl (fun w' hC => by obtain ⟨k0, k1, k2, k3, k4, k5, k6, k7, k8, k9, k10, k11, k12, k13, k14, k15, k16, k17⟩ := hC; assumption) ?_) | (refine quiet_load_B8 rfl rfl (fun w' hC => by obtain ⟨k0, k1, k2, k3, k4, k5, k6, k7, k8, k9, k10, k11, k12, k13, k14, k15, k16, k17⟩ := hC; assumption) ?_) | (refine quiet_load_W rfl rfl (fun w' hC => by obtain ⟨k0, k1, k2, k3, k4, k5, k6, k7, k8, k9, k10, k11, k12, k13, k14, k15, k16, k17⟩ := hC; assumption) ?_))
                        simp only [Act.put, List.setIfInBounds_toArray, List.set_cons_succ, List.set_cons_zero]
                        go_big_quiet_on)
                     | (go_big_quiet_op
                        first
                          | go_big_quiet_on
                          | (apply Exists.intro
                             refine ⟨fun w' hC => ?_, ?_⟩
                             · (first | fail)
                               (try simp only [Vl.eta])
                               exact ⟨rfl, by first | exact hC | exact StBackC_keep _ _ hC hb1⟩
                             go_big_quiet_on))))
              refine wpQuiet_nil ?_
              intro w9 hC
              obtain ⟨k0, k1, k2, k3, k4, k5, k6, k7, k8, k9, k10, k11, k12, k13, k14, k15, k16, k17⟩ := hC
              obtain ⟨hc9, hf9, hz9⟩ := bcell k17
              have hk9 := bblk k17
              go_wp2
              refine ⟨⟨k + 1, by omega, by simp, (by simp [*, go_sem, ↓IntWalk.iteOmega]), (by simp [*, go_sem, ↓IntWalk.iteOmega]), (by simp [*, go_sem, ↓IntWalk.iteOmega]), (by repeat' (first | (with_reducible exact Below.refl _ _) | (with_reducible assumption) | (with_reducible refine Below.alloc ?_ ?_ _) | (with_reducible refine Below.setCell ?_ ?_ _) | (with_reducible refine below_setRow ?_ ?_) | (with_reducible refine Below.drew ?_) | (with_reducible refine below_dn ?_ _) | (with_reducible refine Below.trans ?_ (Below.mono (by assumption) ?_)) | go_size))⟩, by simp [intOf]; omega⟩
          · have hsame : tt.s k = s.s k := helse.out k (by omega)
            have hk1 : ((k : Int) != (q : Int)) = true := by simp; omega
            have hk2 : ((k : Int) == (q : Int)) = false := by simp; omega
            clear hkq
            rw [hsame] at hbb1 hbb2 hbb3
            as_aux_lemma =>
              go_wp2_with fail
              refine wp_region_class (StBackC wP.heap.size wM.heap.size w.heap.size k (s.s k) (s.s k) o wr) (by kernel_rfl) (by as_aux_lemma => kernel_rfl) ?_ ?_
              · refine ⟨?_, ?_, ?_, ?_, ?_, ?_, ?_, ?_, ?_, ?_, ?_, ?_, ?_, ?_, ?_, ?_, ?_, (by repeat' (first | (with_reducible exact Below.refl _ _) | (with_reducible assumption) | (with_reducible refine Below.alloc ?_ ?_ _) | (with_reducible refine Below.setCell ?_ ?_ _) | (with_reducible refine Below.drew ?_) | (with_reducible refine below_dn ?_ _) | (with_reducible refine Below.trans ?_ (Below.mono (by assumption) ?_)) | go_size))⟩
                all_goals first | (intro i; simp [*, go_sem, ↓IntWalk.iteOmega]; done) | (simp [*, go_sem, ↓IntWalk.iteOmega]; done)
              intro hN
              (try simp only [List.append])
              repeat (first
                | go_big_quiet_skip
                | (go_big_quiet_want
                   first
                     | ((first | (refine quiet_load_Slot rfl rfl (fun w' hC => by obtain ⟨k0, k1, k2, k3, k4, k5, k6, k7, k8, k9, k10, k11, k12, k13, k14, k15, k16, k17⟩ := hC; exact ⟨by assumption, by assumption, by assumption, by assumption, by assumption, by assumption, by assumption, by assumption⟩) ?_) | (refine quiet_load_I64 rfl rfl (fun w' hC => by obtain ⟨k0, k1, k2, k3, k4, k5, k6, k7, k8, k9, k10, k11, k12, k13, k14, k15, k16, k17⟩ := hC; assumption) ?_) | (refine quiet_load_B8 rfl rfl (fun w' hC => by obtain ⟨k0, k1, k2, k3, k4, k5, k6, k7, k8, k9, k10, k11, k12, k13, k14, k15, k16, k17⟩ := hC; assumption) ?_) | (refine quiet_load_W rfl rfl (fun w' hC => by obtain ⟨k0, k1, k2, k3, k4, k5, k6, k7, k8, k9, k10, k11, k12, k13, k14, k15, k16, k17⟩ := hC; assumption) ?_))
                        simp only [Act.put, List.setIfInBounds_toArray, List.set_cons_succ, List.set_cons_zero]
                        go_big_quiet_on)
                     | (go_big_quiet_op
                        first
                          | go_big_quiet_on
                          | (apply Exists.intro
                             refine ⟨fun w' hC => ?_, ?_⟩
                             · (first | fail)
                               (try simp only [Vl.eta])
                               exact ⟨rfl, by first | exact hC | exact StBackC_keep _ _ hC hb1⟩
                             go_big_quiet_on))))
              refine wpQuiet_nil ?_
              intro w9 hC
              obtain ⟨k0, k1, k2, k3, k4, k5, k6, k7, k8, k9, k10, k11, k12, k13, k14, k15, k16, k17⟩ := hC
              obtain ⟨hc9, hf9, hz9⟩ := bcell k17
              have hk9 := bblk k17
              go_wp2
              refine ⟨⟨k + 1, by omega, by simp, (by simp [*, go_sem, ↓IntWalk.iteOmega]), (by simp [*, go_sem, ↓IntWalk.iteOmega]), (by simp [*, go_sem, ↓IntWalk.iteOmega]), (by repeat' (first | (with_reducible exact Below.refl _ _) | (with_reducible assumption) | (with_reducible refine Below.alloc ?_ ?_ _) | (with_reducible refine Below.setCell ?_ ?_ _) | (with_reducible refine below_setRow ?_ ?_) | (with_reducible refine Below.drew ?_) | (with_reducible refine below_dn ?_ _) | (with_reducible refine Below.trans ?_ (Below.mono (by assumption) ?_)) | go_size))⟩, by simp [intOf]; omega⟩
        · obtain rfl : k = 64 := by omega
          rw [show ((64 : Nat) : Int) = 64 from rfl]
          go_wp2
          go_ret
          exact ⟨rfl, (by repeat' (first | (with_reducible exact Below.refl _ _) | (with_reducible assumption) | (with_reducible refine Below.alloc ?_ ?_ _) | (with_reducible refine Below.setCell ?_ ?_ _) | (with_reducible refine below_setRow ?_ ?_) | (with_reducible refine Below.drew ?_) | (with_reducible refine below_dn ?_ _) | (with_reducible refine Below.trans ?_ (Below.mono (by assumption) ?_)) | go_size))⟩
  · have hz := St.put_bad he
    rw [hz, hz0.out]
    have he1 : (s.putE o n v != 0) = true := by simpa using he
    go_wp2
    go_ret
    exact ⟨rfl, (by repeat' (first | (with_reducible exact Below.refl _ _) | (with_reducible assumption) | (with_reducible refine Below.alloc ?_ ?_ _) | (with_reducible refine Below.setCell ?_ ?_ _) | (with_reducible refine below_setRow ?_ ?_) | (with_reducible refine Below.drew ?_) | (with_reducible refine below_dn ?_ _) | (with_reducible refine Below.trans ?_ (Below.mono (by assumption) ?_)) | go_size))⟩

end Hk
