/- The statement StatePlays of the Go text: it returns true, and old memory is as it was. No condition but the bounds of the arguments' kinds, and what stands in memory. -/
import Derived.Test.YtjeanjbjngbfcaaProg
import Derived.Test.YtjeanjbjngbfcaaGp
import Derived.Test.YtjeanjbjngbfcaaStLw
import Derived.Test.YtjeanjbjngbfcaaSt1
import Derived.Test.YtjeanjbjngbfcaaSt2
import Derived.Test.YtjeanjbjngbfcaaSt3
import Derived.Test.YtjeanjbjngbfcaaSt5
import Derived.Test.YtjeanjbjngbfcaaSt8
import Derived.Test.YtjeanjbjngbfcaaSt9
import Derived.Test.YtjeanjbjngbfcaaSt11
import Derived.Test.YtjeanjbjngbfcaaStk
import Derived.Test.YtjeanjbjngbfcaaSteq
import Derived.Test.YtjeanjbjngbfcaaLds
import Derived.Test.YtjeanjbjngbfcaaRt1
import Derived.Test.YtjeanjbjngbfcaaRt2
import Derived.Test.YtjeanjbjngbfcaaRt3
import Derived.Test.YtjeanjbjngbfcaaRt4
import Derived.Test.YtjeanjbjngbfcaaRt7
import Derived.Test.YtjeanjbjngbfcaaSl13
import Derived.Test.YtjeanjbjngbfcaaSl14
import Derived.Test.YtjeanjbjngbfcaaSl15
import Derived.Test.YtjeanjbjngbfcaaSl16
import Derived.Test.YtjeanjbjngbfcaaGl
namespace Hk
open Go Go.RowKit Go.Proofs
set_option linter.unusedSimpArgs false
set_option linter.unusedVariables false
set_option maxRecDepth 100000
attribute [go_sem] Tn.eta Sp.eta Fa.eta Vl.eta
def StPlC (ns : St) (gv : Vl) (o n : Int) (a x y g1 g2 : Nat) (w : World) (w' : World) : Prop := blk w' x = ns.cells ∧ blk w' y = ns.cells ∧ w'.cell? ⟨a, 1, none⟩ = some (.int .i64 o) ∧ w'.cell? ⟨a, 2, none⟩ = some (.int .i64 n) ∧ w'.cell? ⟨g1, 0, none⟩ = some (.int .u8 gv.k) ∧ w'.cell? ⟨g1, 1, none⟩ = some (.int .u64 (N gv.f.t.v)) ∧ w'.cell? ⟨g1, 2, none⟩ = some (.int .u64 (N gv.f.t.m)) ∧ w'.cell? ⟨g1, 3, none⟩ = some (.int .u64 (N gv.f.s.lo)) ∧ w'.cell? ⟨g1, 4, none⟩ = some (.int .u64 (N gv.f.s.hi)) ∧ w'.cell? ⟨g1, 5, none⟩ = some (.int .i64 gv.i) ∧ w'.cell? ⟨g1, 6, none⟩ = some (.int .i64 gv.off) ∧ w'.cell? ⟨g2, 0, none⟩ = some (.int .u8 gv.k) ∧ w'.cell? ⟨g2, 1, none⟩ = some (.int .u64 (N gv.f.t.v)) ∧ w'.cell? ⟨g2, 2, none⟩ = some (.int .u64 (N gv.f.t.m)) ∧ w'.cell? ⟨g2, 3, none⟩ = some (.int .u64 (N gv.f.s.lo)) ∧ w'.cell? ⟨g2, 4, none⟩ = some (.int .u64 (N gv.f.s.hi)) ∧ w'.cell? ⟨g2, 5, none⟩ = some (.int .i64 gv.i) ∧ w'.cell? ⟨g2, 6, none⟩ = some (.int .i64 gv.off) ∧ Below w.heap.size w w'
theorem StPlC_keep {ns : St} {gv : Vl} {o n : Int} {a x y g1 g2 : Nat} {w : World} (w' w1 : World) (h : StPlC ns gv o n a x y g1 g2 w w') (hb : Below w'.heap.size w' w1) : StPlC ns gv o n a x y g1 g2 w w1 := by
  obtain ⟨k0, k1, k2, k3, k4, k5, k6, k7, k8, k9, k10, k11, k12, k13, k14, k15, k16, k17, k18⟩ := h
  exact ⟨blk_keep hb k0 (by rw [St.cells_size]; decide), blk_keep hb k1 (by rw [St.cells_size]; decide), cell_keep hb k2, cell_keep hb k3, cell_keep hb k4, cell_keep hb k5, cell_keep hb k6, cell_keep hb k7, cell_keep hb k8, cell_keep hb k9, cell_keep hb k10, cell_keep hb k11, cell_keep hb k12, cell_keep hb k13, cell_keep hb k14, cell_keep hb k15, cell_keep hb k16, cell_keep hb k17, below_next k18 hb⟩

def StPlE (ns : St) (gv : Vl) (x y g1 g2 : Nat) (w : World) (w' : World) : Prop := blk w' x = ns.cells ∧ blk w' y = ns.cells ∧ w'.cell? ⟨g1, 0, none⟩ = some (.int .u8 gv.k) ∧ w'.cell? ⟨g1, 1, none⟩ = some (.int .u64 (N gv.f.t.v)) ∧ w'.cell? ⟨g1, 2, none⟩ = some (.int .u64 (N gv.f.t.m)) ∧ w'.cell? ⟨g1, 3, none⟩ = some (.int .u64 (N gv.f.s.lo)) ∧ w'.cell? ⟨g1, 4, none⟩ = some (.int .u64 (N gv.f.s.hi)) ∧ w'.cell? ⟨g1, 5, none⟩ = some (.int .i64 gv.i) ∧ w'.cell? ⟨g1, 6, none⟩ = some (.int .i64 gv.off) ∧ w'.cell? ⟨g2, 0, none⟩ = some (.int .u8 gv.k) ∧ w'.cell? ⟨g2, 1, none⟩ = some (.int .u64 (N gv.f.t.v)) ∧ w'.cell? ⟨g2, 2, none⟩ = some (.int .u64 (N gv.f.t.m)) ∧ w'.cell? ⟨g2, 3, none⟩ = some (.int .u64 (N gv.f.s.lo)) ∧ w'.cell? ⟨g2, 4, none⟩ = some (.int .u64 (N gv.f.s.hi)) ∧ w'.cell? ⟨g2, 5, none⟩ = some (.int .i64 gv.i) ∧ w'.cell? ⟨g2, 6, none⟩ = some (.int .i64 gv.off) ∧ Below w.heap.size w w'
theorem StPlE_keep {ns : St} {gv : Vl} {x y g1 g2 : Nat} {w : World} (w' w1 : World) (h : StPlE ns gv x y g1 g2 w w') (hb : Below w'.heap.size w' w1) : StPlE ns gv x y g1 g2 w w1 := by
  obtain ⟨k0, k1, k2, k3, k4, k5, k6, k7, k8, k9, k10, k11, k12, k13, k14, k15, k16⟩ := h
  exact ⟨blk_keep hb k0 (by rw [St.cells_size]; decide), blk_keep hb k1 (by rw [St.cells_size]; decide), cell_keep hb k2, cell_keep hb k3, cell_keep hb k4, cell_keep hb k5, cell_keep hb k6, cell_keep hb k7, cell_keep hb k8, cell_keep hb k9, cell_keep hb k10, cell_keep hb k11, cell_keep hb k12, cell_keep hb k13, cell_keep hb k14, cell_keep hb k15, below_next k16 hb⟩

set_option maxHeartbeats 8000000 in
theorem statePlays_walk (p : Option Addr) (len cap : Nat) (hlen : len ≤ 9223372036854775807) (L : Nat → Ac) (o : Int) (_ : -9223372036854775808 ≤ o ∧ o ≤ 9223372036854775807) (n : Int) (_ : -9223372036854775808 ≤ n ∧ n ≤ 9223372036854775807) (w : World) (hA : Acts w p len L) : Calls Try.prog 6 #[.slice p len cap, .int .i64 o, .int .i64 n] w fun e w' => e = .returned (.bool true) ∧ Below w.heap.size w w' := by
  obtain ⟨s0, hs0⟩ : ∃ s0 : St, Hid (s0 = St.first) := ⟨_, Lib.hid rfl⟩
  go_enter Try.func6, Try.ntmps6
  go_wp2_with fail
  refine (tshown_c _).mono ?_
  rintro e wH ⟨rfl, hbwH⟩
  obtain ⟨hcwH, hfwH, hzwH⟩ := bcell hbwH
  have hkwH := bblk hbwH
  (try simp only [World.size_alloc, World.size_setCell, World.size_drew, setRow_size] at hcwH hfwH hzwH hkwH)
  go_wp2_with fail
  refine (tfirst_v s0 hs0 _).mono ?_
  rintro e w1 ⟨rfl, hbw1⟩
  obtain ⟨hcw1, hfw1, hzw1⟩ := bcell hbw1
  have hkw1 := bblk hbw1
  (try simp only [World.size_alloc, World.size_setCell, World.size_drew, setRow_size] at hcw1 hfw1 hzw1 hkw1)
  go_wp2_with fail
  refine (rtfirst_v s0 hs0 _).mono ?_
  rintro e w2 ⟨rfl, hbw2⟩
  obtain ⟨hcw2, hfw2, hzw2⟩ := bcell hbw2
  have hkw2 := bblk hbw2
  (try simp only [World.size_alloc, World.size_setCell, World.size_drew, setRow_size] at hcw2 hfw2 hzw2 hkw2)
  go_wp2
  go_loopw [29] (fun c wr => ∃ k : Nat, k ≤ len ∧ k ≤ 100 ∧ c = .int .i64 (k : Int) ∧ blk wr w1.heap.size = (St.made L k).cells ∧ (∀ i, wr.frozen? ⟨w1.heap.size, i, none⟩ = false) ∧ blk wr w2.heap.size = (St.made L k).cells ∧ (∀ i, wr.frozen? ⟨w2.heap.size, i, none⟩ = false) ∧ Below w.heap.size w wr) (fun c _ => len - (intOf c).toNat)
  case atStart => exact ⟨0, by omega, by omega, rfl, by rw [show St.made L 0 = s0 from hs0.out.symm]; simp [*, go_sem, ↓IntWalk.iteOmega], (by intro i; simp [*, go_sem, ↓IntWalk.iteOmega]), by rw [show St.made L 0 = s0 from hs0.out.symm]; simp [*, go_sem, ↓IntWalk.iteOmega], (by intro i; simp [*, go_sem, ↓IntWalk.iteOmega]), (by repeat' (first | (with_reducible exact Below.refl _ _) | (with_reducible assumption) | (with_reducible refine Below.alloc ?_ ?_ _) | (with_reducible refine Below.setCell ?_ ?_ _) | (with_reducible refine below_setRow ?_ ?_) | (with_reducible refine Below.drew ?_) | (with_reducible refine below_dn ?_ _) | (with_reducible refine Below.trans ?_ (Below.mono (by assumption) ?_)) | go_size))⟩
  case round =>
    obtain ⟨k, hk, hk100, rfl, hX, hfX, hY, hfY, hB⟩ := hrel
    clear hbw1 hcw1 hfw1 hkw1 hbw2 hcw2 hfw2 hkw2
    have zX := blk_lt (w := wr) (b := w1.heap.size) (by rw [hX, St.cells_size]; decide)
    have zY := blk_lt (w := wr) (b := w2.heap.size) (by rw [hY, St.cells_size]; decide)
    by_cases hlt : k < len
    · by_cases hcut : k < 100
      · obtain ⟨b, off, rfl, hr, hcells⟩ := (hA.keep hB) k hlt
        have zb := cell_lt (hcells 0 (by omega))
        have hld := ldA_run wr b (off + k * 10) (L k) hcells
        have hm : St.made L (k + 1) = (St.made L k).act (L k) := rfl
        have hmh := Lib.hid hm
        clear hm
        obtain ⟨sk, hsk⟩ : ∃ x, Hid (St.made L k = x) := ⟨_, Lib.hid rfl⟩
        rw [hsk.out] at hX hY
        obtain ⟨pt, hpt⟩ : ∃ x, Hid (sk.put (L k).o (L k).n (L k).v = x) := ⟨_, Lib.hid rfl⟩
        obtain ⟨pe, hpe⟩ : ∃ x, Hid (sk.putE (L k).o (L k).n (L k).v = x) := ⟨_, Lib.hid rfl⟩
        obtain ⟨st, hst⟩ : ∃ x, Hid (sk.set (L k).o (L k).v = x) := ⟨_, Lib.hid rfl⟩
        obtain ⟨se, hse⟩ : ∃ x, Hid ((if sk.setOk (L k).o (L k).v = true then (0 : Int) else 1) = x) := ⟨_, Lib.hid rfl⟩
        obtain ⟨⟨kl, kh⟩, _, _⟩ := hr
        by_cases h3 : (L k).k % 4 = 3
        · have h3h := Lib.hid h3
          go_wp2_with fail
          refine (tput_c' _ _ _ _ _ _ _ _ _ _ _).mono ?_
          rintro e wP ⟨rfl, hbwP⟩
          obtain ⟨hcwP, hfwP, hzwP⟩ := bcell hbwP
          have hkwP := bblk hbwP
          (try simp only [World.size_alloc, World.size_setCell, World.size_drew, setRow_size] at hcwP hfwP hzwP hkwP)
          (try simp only [Vl.eta, Tn.eta, Sp.eta, Fa.eta])
          rw [hpt.out, hpe.out]
          go_wp2_with fail
          refine (rtput_c' _ _ _ _ _ _ _ _ _ _ _).mono ?_
          rintro e wQ ⟨rfl, hbwQ⟩
          obtain ⟨hcwQ, hfwQ, hzwQ⟩ := bcell hbwQ
          have hkwQ := bblk hbwQ
          (try simp only [World.size_alloc, World.size_setCell, World.size_drew, setRow_size] at hcwQ hfwQ hzwQ hkwQ)
          (try simp only [Vl.eta, Tn.eta, Sp.eta, Fa.eta])
          rw [hpt.out, hpe.out]
          go_wp2_with fail
          refine (tset_c' _ _ _ _ _ _ _ _ _ _).mono ?_
          rintro e wS ⟨rfl, hbwS⟩
          obtain ⟨hcwS, hfwS, hzwS⟩ := bcell hbwS
          have hkwS := bblk hbwS
          (try simp only [World.size_alloc, World.size_setCell, World.size_drew, setRow_size] at hcwS hfwS hzwS hkwS)
          (try simp only [Vl.eta, Tn.eta, Sp.eta, Fa.eta])
          rw [hst.out, hse.out]
          go_wp2_with fail
          refine (rtset_c' _ _ _ _ _ _ _ _ _ _).mono ?_
          rintro e wT ⟨rfl, hbwT⟩
          obtain ⟨hcwT, hfwT, hzwT⟩ := bcell hbwT
          have hkwT := bblk hbwT
          (try simp only [World.size_alloc, World.size_setCell, World.size_drew, setRow_size] at hcwT hfwT hzwT hkwT)
          (try simp only [Vl.eta, Tn.eta, Sp.eta, Fa.eta])
          rw [hst.out, hse.out]
          by_cases he : se = 0
          · have hm2 : St.made L (k + 1) = st := by rw [hmh.out]; unfold St.act St.actE St.actT; rw [if_pos h3h.out, if_pos h3h.out, hsk.out, hse.out, if_pos he, hst.out]
            go_wp2_with fail
            go_region
            obtain ⟨gv, hgv⟩ : ∃ x, Hid (st.get (L k).o (L k).n = x) := ⟨_, Lib.hid rfl⟩
            go_wp2_with fail
            refine (tget_c _ _ _ _).mono ?_
            rintro e wG ⟨rfl, hbwG⟩
            obtain ⟨hcwG, hfwG, hzwG⟩ := bcell hbwG
            have hkwG := bblk hbwG
            (try simp only [World.size_alloc, World.size_setCell, World.size_drew, setRow_size] at hcwG hfwG hzwG hkwG)
            rw [hgv.out]
            go_wp2_with fail
            refine (rtget_c _ _ _ _).mono ?_
            rintro e wI ⟨rfl, hbwI⟩
            obtain ⟨hcwI, hfwI, hzwI⟩ := bcell hbwI
            have hkwI := bblk hbwI
            (try simp only [World.size_alloc, World.size_setCell, World.size_drew, setRow_size] at hcwI hfwI hzwI hkwI)
            rw [hgv.out]
            go_wp2_with fail
            refine wp_region_class (StPlC st gv (L k).o (L k).n wr.heap.size w1.heap.size w2.heap.size wG.heap.size wI.heap.size wI) (by kernel_rfl) (by kernel_rfl) ?_ ?_
            · refine ⟨?_, ?_, ?_, ?_, ?_, ?_, ?_, ?_, ?_, ?_, ?_, ?_, ?_, ?_, ?_, ?_, ?_, ?_, (by repeat' (first | (with_reducible exact Below.refl _ _) | (with_reducible assumption) | (with_reducible refine Below.alloc ?_ ?_ _) | (with_reducible refine Below.setCell ?_ ?_ _) | (with_reducible refine below_setRow ?_ ?_) | (with_reducible refine Below.drew ?_) | (with_reducible refine below_dn ?_ _) | (with_reducible refine Below.trans ?_ (Below.mono (by assumption) ?_)) | go_size))⟩
              all_goals first | (simp [*, go_sem, ↓IntWalk.iteOmega]; done)
            intro hN
            (try simp only [List.append])
            repeat (first
              | go_big_quiet_skip
              | (go_big_quiet_want
                 first
                   | ((first | (refine quiet_load_State rfl rfl (fun w' hC => by obtain ⟨k0, k1, k2, k3, k4, k5, k6, k7, k8, k9, k10, k11, k12, k13, k14, k15, k16, k17, k18⟩ := hC; assumption) ?_) | (refine quiet_load_Val rfl rfl (fun w' hC => by obtain ⟨k0, k1, k2, k3, k4, k5, k6, k7, k8, k9, k10, k11, k12, k13, k14, k15, k16, k17, k18⟩ := hC; exact ⟨by assumption, by assumption, by assumption, by assumption, by assumption, by assumption, by assumption⟩) ?_) | (refine quiet_load_I64 rfl rfl (fun w' hC => by obtain ⟨k0, k1, k2, k3, k4, k5, k6, k7, k8, k9, k10, k11, k12, k13, k14, k15, k16, k17, k18⟩ := hC; assumption) ?_) | (refine quiet_load_W rfl rfl (fun w' hC => by obtain ⟨k0, k1, k2, k3, k4, k5, k6, k7, k8, k9, k10, k11, k12, k13, k14, k15, k16, k17, k18⟩ := hC; assumption) ?_))
                      simp only [Act.put, List.setIfInBounds_toArray, List.set_cons_succ, List.set_cons_zero]
                      go_big_quiet_on)
                   | (go_big_quiet_op
                      first
                        | go_big_quiet_on
                        | (apply Exists.intro
                           refine ⟨fun w' hC => ?_, ?_⟩
                           · (first | (go_at_call 16; (with_reducible refine (tfull_c _ _ _ _).mono ?_); rintro e w1 ⟨rfl, hb1⟩) | (go_at_call 23; (with_reducible refine (rtfull_c _ _ _ _).mono ?_); rintro e w1 ⟨rfl, hb1⟩))
                             (try simp only [Vl.eta])
                             exact ⟨rfl, by first | exact hC | exact StPlC_keep _ _ hC hb1⟩
                           go_big_quiet_on))))
            refine wpQuiet_nil ?_
            intro w9 hC
            obtain ⟨k0, k1, k2, k3, k4, k5, k6, k7, k8, k9, k10, k11, k12, k13, k14, k15, k16, k17, k18⟩ := hC
            obtain ⟨hc9, hf9, hz9⟩ := bcell k18
            have hk9 := bblk k18
            go_wp2
            refine ⟨⟨k + 1, by omega, by omega, by simp, ?_, ?_, ?_, ?_, (by repeat' (first | (with_reducible exact Below.refl _ _) | (with_reducible assumption) | (with_reducible refine Below.alloc ?_ ?_ _) | (with_reducible refine Below.setCell ?_ ?_ _) | (with_reducible refine below_setRow ?_ ?_) | (with_reducible refine Below.drew ?_) | (with_reducible refine below_dn ?_ _) | (with_reducible refine Below.trans ?_ (Below.mono (by assumption) ?_)) | go_size))⟩, by simp [intOf]; omega⟩
            · rw [hm2]; simp [*, go_sem, ↓IntWalk.iteOmega]
            · intro i; simp [*, go_sem, ↓IntWalk.iteOmega]
            · rw [hm2]; simp [*, go_sem, ↓IntWalk.iteOmega]
            · intro i; simp [*, go_sem, ↓IntWalk.iteOmega]
          · have hm2 : St.made L (k + 1) = sk := by rw [hmh.out]; unfold St.act St.actE; rw [if_pos h3h.out, hsk.out, hse.out, if_neg he]
            go_wp2_with fail
            obtain ⟨gv, hgv⟩ : ∃ x, Hid (sk.get (L k).o (L k).n = x) := ⟨_, Lib.hid rfl⟩
            go_wp2_with fail
            refine (tget_c _ _ _ _).mono ?_
            rintro e wG ⟨rfl, hbwG⟩
            obtain ⟨hcwG, hfwG, hzwG⟩ := bcell hbwG
            have hkwG := bblk hbwG
            (try simp only [World.size_alloc, World.size_setCell, World.size_drew, setRow_size] at hcwG hfwG hzwG hkwG)
            rw [hgv.out]
            go_wp2_with fail
            refine (rtget_c _ _ _ _).mono ?_
            rintro e wI ⟨rfl, hbwI⟩
            obtain ⟨hcwI, hfwI, hzwI⟩ := bcell hbwI
            have hkwI := bblk hbwI
            (try simp only [World.size_alloc, World.size_setCell, World.size_drew, setRow_size] at hcwI hfwI hzwI hkwI)
            rw [hgv.out]
            go_wp2_with fail
            refine wp_region_class (StPlC sk gv (L k).o (L k).n wr.heap.size w1.heap.size w2.heap.size wG.heap.size wI.heap.size wI) (by kernel_rfl) (by kernel_rfl) ?_ ?_
            · refine ⟨?_, ?_, ?_, ?_, ?_, ?_, ?_, ?_, ?_, ?_, ?_, ?_, ?_, ?_, ?_, ?_, ?_, ?_, (by repeat' (first | (with_reducible exact Below.refl _ _) | (with_reducible assumption) | (with_reducible refine Below.alloc ?_ ?_ _) | (with_reducible refine Below.setCell ?_ ?_ _) | (with_reducible refine below_setRow ?_ ?_) | (with_reducible refine Below.drew ?_) | (with_reducible refine below_dn ?_ _) | (with_reducible refine Below.trans ?_ (Below.mono (by assumption) ?_)) | go_size))⟩
              all_goals first | (simp [*, go_sem, ↓IntWalk.iteOmega]; done)
            intro hN
            (try simp only [List.append])
            repeat (first
              | go_big_quiet_skip
              | (go_big_quiet_want
                 first
                   | ((first | (refine quiet_load_State rfl rfl (fun w' hC => by obtain ⟨k0, k1, k2, k3, k4, k5, k6, k7, k8, k9, k10, k11, k12, k13, k14, k15, k16, k17, k18⟩ := hC; assumption) ?_) | (refine quiet_load_Val rfl rfl (fun w' hC => by obtain ⟨k0, k1, k2, k3, k4, k5, k6, k7, k8, k9, k10, k11, k12, k13, k14, k15, k16, k17, k18⟩ := hC; exact ⟨by assumption, by assumption, by assumption, by assumption, by assumption, by assumption, by assumption⟩) ?_) | (refine quiet_load_I64 rfl rfl (fun w' hC => by obtain ⟨k0, k1, k2, k3, k4, k5, k6, k7, k8, k9, k10, k11, k12, k13, k14, k15, k16, k17, k18⟩ := hC; assumption) ?_) | (refine quiet_load_W rfl rfl (fun w' hC => by obtain ⟨k0, k1, k2, k3, k4, k5, k6, k7, k8, k9, k10, k11, k12, k13, k14, k15, k16, k17, k18⟩ := hC; assumption) ?_))
                      simp only [Act.put, List.setIfInBounds_toArray, List.set_cons_succ, List.set_cons_zero]
                      go_big_quiet_on)
                   | (go_big_quiet_op
                      first
                        | go_big_quiet_on
                        | (apply Exists.intro
                           refine ⟨fun w' hC => ?_, ?_⟩
                           · (first | (go_at_call 16; (with_reducible refine (tfull_c _ _ _ _).mono ?_); rintro e w1 ⟨rfl, hb1⟩) | (go_at_call 23; (with_reducible refine (rtfull_c _ _ _ _).mono ?_); rintro e w1 ⟨rfl, hb1⟩))
                             (try simp only [Vl.eta])
                             exact ⟨rfl, by first | exact hC | exact StPlC_keep _ _ hC hb1⟩
                           go_big_quiet_on))))
            refine wpQuiet_nil ?_
            intro w9 hC
            obtain ⟨k0, k1, k2, k3, k4, k5, k6, k7, k8, k9, k10, k11, k12, k13, k14, k15, k16, k17, k18⟩ := hC
            obtain ⟨hc9, hf9, hz9⟩ := bcell k18
            have hk9 := bblk k18
            go_wp2
            refine ⟨⟨k + 1, by omega, by omega, by simp, ?_, ?_, ?_, ?_, (by repeat' (first | (with_reducible exact Below.refl _ _) | (with_reducible assumption) | (with_reducible refine Below.alloc ?_ ?_ _) | (with_reducible refine Below.setCell ?_ ?_ _) | (with_reducible refine below_setRow ?_ ?_) | (with_reducible refine Below.drew ?_) | (with_reducible refine below_dn ?_ _) | (with_reducible refine Below.trans ?_ (Below.mono (by assumption) ?_)) | go_size))⟩, by simp [intOf]; omega⟩
            · rw [hm2]; simp [*, go_sem, ↓IntWalk.iteOmega]
            · intro i; simp [*, go_sem, ↓IntWalk.iteOmega]
            · rw [hm2]; simp [*, go_sem, ↓IntWalk.iteOmega]
            · intro i; simp [*, go_sem, ↓IntWalk.iteOmega]
        · have h3h := Lib.hid h3
          go_wp2_with fail
          refine (tput_c' _ _ _ _ _ _ _ _ _ _ _).mono ?_
          rintro e wP ⟨rfl, hbwP⟩
          obtain ⟨hcwP, hfwP, hzwP⟩ := bcell hbwP
          have hkwP := bblk hbwP
          (try simp only [World.size_alloc, World.size_setCell, World.size_drew, setRow_size] at hcwP hfwP hzwP hkwP)
          (try simp only [Vl.eta, Tn.eta, Sp.eta, Fa.eta])
          rw [hpt.out, hpe.out]
          go_wp2_with fail
          refine (rtput_c' _ _ _ _ _ _ _ _ _ _ _).mono ?_
          rintro e wQ ⟨rfl, hbwQ⟩
          obtain ⟨hcwQ, hfwQ, hzwQ⟩ := bcell hbwQ
          have hkwQ := bblk hbwQ
          (try simp only [World.size_alloc, World.size_setCell, World.size_drew, setRow_size] at hcwQ hfwQ hzwQ hkwQ)
          (try simp only [Vl.eta, Tn.eta, Sp.eta, Fa.eta])
          rw [hpt.out, hpe.out]
          by_cases he : pe = 0
          · have hm2 : St.made L (k + 1) = pt := by rw [hmh.out]; unfold St.act St.actE St.actT; rw [if_neg h3h.out, if_neg h3h.out, hsk.out, hpe.out, if_pos he, hpt.out]
            go_wp2_with fail
            go_region
            obtain ⟨gv, hgv⟩ : ∃ x, Hid (pt.get (L k).o (L k).n = x) := ⟨_, Lib.hid rfl⟩
            go_wp2_with fail
            refine (tget_c _ _ _ _).mono ?_
            rintro e wG ⟨rfl, hbwG⟩
            obtain ⟨hcwG, hfwG, hzwG⟩ := bcell hbwG
            have hkwG := bblk hbwG
            (try simp only [World.size_alloc, World.size_setCell, World.size_drew, setRow_size] at hcwG hfwG hzwG hkwG)
            rw [hgv.out]
            go_wp2_with fail
            refine (rtget_c _ _ _ _).mono ?_
            rintro e wI ⟨rfl, hbwI⟩
            obtain ⟨hcwI, hfwI, hzwI⟩ := bcell hbwI
            have hkwI := bblk hbwI
            (try simp only [World.size_alloc, World.size_setCell, World.size_drew, setRow_size] at hcwI hfwI hzwI hkwI)
            rw [hgv.out]
            go_wp2_with fail
            refine wp_region_class (StPlC pt gv (L k).o (L k).n wr.heap.size w1.heap.size w2.heap.size wG.heap.size wI.heap.size wI) (by kernel_rfl) (by kernel_rfl) ?_ ?_
            · refine ⟨?_, ?_, ?_, ?_, ?_, ?_, ?_, ?_, ?_, ?_, ?_, ?_, ?_, ?_, ?_, ?_, ?_, ?_, (by repeat' (first | (with_reducible exact Below.refl _ _) | (with_reducible assumption) | (with_reducible refine Below.alloc ?_ ?_ _) | (with_reducible refine Below.setCell ?_ ?_ _) | (with_reducible refine below_setRow ?_ ?_) | (with_reducible refine Below.drew ?_) | (with_reducible refine below_dn ?_ _) | (with_reducible refine Below.trans ?_ (Below.mono (by assumption) ?_)) | go_size))⟩
              all_goals first | (simp [*, go_sem, ↓IntWalk.iteOmega]; done)
            intro hN
            (try simp only [List.append])
            repeat (first
              | go_big_quiet_skip
              | (go_big_quiet_want
                 first
                   | ((first | (refine quiet_load_State rfl rfl (fun w' hC => by obtain ⟨k0, k1, k2, k3, k4, k5, k6, k7, k8, k9, k10, k11, k12, k13, k14, k15, k16, k17, k18⟩ := hC; assumption) ?_) | (refine quiet_load_Val rfl rfl (fun w' hC => by obtain ⟨k0, k1, k2, k3, k4, k5, k6, k7, k8, k9, k10, k11, k12, k13, k14, k15, k16, k17, k18⟩ := hC; exact ⟨by assumption, by assumption, by assumption, by assumption, by assumption, by assumption, by assumption⟩) ?_) | (refine quiet_load_I64 rfl rfl (fun w' hC => by obtain ⟨k0, k1, k2, k3, k4, k5, k6, k7, k8, k9, k10, k11, k12, k13, k14, k15, k16, k17, k18⟩ := hC; assumption) ?_) | (refine quiet_load_W rfl rfl (fun w' hC => by obtain ⟨k0, k1, k2, k3, k4, k5, k6, k7, k8, k9, k10, k11, k12, k13, k14, k15, k16, k17, k18⟩ := hC; assumption) ?_))
                      simp only [Act.put, List.setIfInBounds_toArray, List.set_cons_succ, List.set_cons_zero]
                      go_big_quiet_on)
                   | (go_big_quiet_op
                      first
                        | go_big_quiet_on
                        | (apply Exists.intro
                           refine ⟨fun w' hC => ?_, ?_⟩
                           · (first | (go_at_call 16; (with_reducible refine (tfull_c _ _ _ _).mono ?_); rintro e w1 ⟨rfl, hb1⟩) | (go_at_call 23; (with_reducible refine (rtfull_c _ _ _ _).mono ?_); rintro e w1 ⟨rfl, hb1⟩))
                             (try simp only [Vl.eta])
                             exact ⟨rfl, by first | exact hC | exact StPlC_keep _ _ hC hb1⟩
                           go_big_quiet_on))))
            refine wpQuiet_nil ?_
            intro w9 hC
            obtain ⟨k0, k1, k2, k3, k4, k5, k6, k7, k8, k9, k10, k11, k12, k13, k14, k15, k16, k17, k18⟩ := hC
            obtain ⟨hc9, hf9, hz9⟩ := bcell k18
            have hk9 := bblk k18
            go_wp2
            refine ⟨⟨k + 1, by omega, by omega, by simp, ?_, ?_, ?_, ?_, (by repeat' (first | (with_reducible exact Below.refl _ _) | (with_reducible assumption) | (with_reducible refine Below.alloc ?_ ?_ _) | (with_reducible refine Below.setCell ?_ ?_ _) | (with_reducible refine below_setRow ?_ ?_) | (with_reducible refine Below.drew ?_) | (with_reducible refine below_dn ?_ _) | (with_reducible refine Below.trans ?_ (Below.mono (by assumption) ?_)) | go_size))⟩, by simp [intOf]; omega⟩
            · rw [hm2]; simp [*, go_sem, ↓IntWalk.iteOmega]
            · intro i; simp [*, go_sem, ↓IntWalk.iteOmega]
            · rw [hm2]; simp [*, go_sem, ↓IntWalk.iteOmega]
            · intro i; simp [*, go_sem, ↓IntWalk.iteOmega]
          · have hm2 : St.made L (k + 1) = sk := by rw [hmh.out]; unfold St.act St.actE; rw [if_neg h3h.out, hsk.out, hpe.out, if_neg he]
            go_wp2_with fail
            obtain ⟨gv, hgv⟩ : ∃ x, Hid (sk.get (L k).o (L k).n = x) := ⟨_, Lib.hid rfl⟩
            go_wp2_with fail
            refine (tget_c _ _ _ _).mono ?_
            rintro e wG ⟨rfl, hbwG⟩
            obtain ⟨hcwG, hfwG, hzwG⟩ := bcell hbwG
            have hkwG := bblk hbwG
            (try simp only [World.size_alloc, World.size_setCell, World.size_drew, setRow_size] at hcwG hfwG hzwG hkwG)
            rw [hgv.out]
            go_wp2_with fail
            refine (rtget_c _ _ _ _).mono ?_
            rintro e wI ⟨rfl, hbwI⟩
            obtain ⟨hcwI, hfwI, hzwI⟩ := bcell hbwI
            have hkwI := bblk hbwI
            (try simp only [World.size_alloc, World.size_setCell, World.size_drew, setRow_size] at hcwI hfwI hzwI hkwI)
            rw [hgv.out]
            go_wp2_with fail
            refine wp_region_class (StPlC sk gv (L k).o (L k).n wr.heap.size w1.heap.size w2.heap.size wG.heap.size wI.heap.size wI) (by kernel_rfl) (by kernel_rfl) ?_ ?_
            · refine ⟨?_, ?_, ?_, ?_, ?_, ?_, ?_, ?_, ?_, ?_, ?_, ?_, ?_, ?_, ?_, ?_, ?_, ?_, (by repeat' (first | (with_reducible exact Below.refl _ _) | (with_reducible assumption) | (with_reducible refine Below.alloc ?_ ?_ _) | (with_reducible refine Below.setCell ?_ ?_ _) | (with_reducible refine below_setRow ?_ ?_) | (with_reducible refine Below.drew ?_) | (with_reducible refine below_dn ?_ _) | (with_reducible refine Below.trans ?_ (Below.mono (by assumption) ?_)) | go_size))⟩
              all_goals first | (simp [*, go_sem, ↓IntWalk.iteOmega]; done)
            intro hN
            (try simp only [List.append])
            repeat (first
              | go_big_quiet_skip
              | (go_big_quiet_want
                 first
                   | ((first | (refine quiet_load_State rfl rfl (fun w' hC => by obtain ⟨k0, k1, k2, k3, k4, k5, k6, k7, k8, k9, k10, k11, k12, k13, k14, k15, k16, k17, k18⟩ := hC; assumption) ?_) | (refine quiet_load_Val rfl rfl (fun w' hC => by obtain ⟨k0, k1, k2, k3, k4, k5, k6, k7, k8, k9, k10, k11, k12, k13, k14, k15, k16, k17, k18⟩ := hC; exact ⟨by assumption, by assumption, by assumption, by assumption, by assumption, by assumption, by assumption⟩) ?_) | (refine quiet_load_I64 rfl rfl (fun w' hC => by obtain ⟨k0, k1, k2, k3, k4, k5, k6, k7, k8, k9, k10, k11, k12, k13, k14, k15, k16, k17, k18⟩ := hC; assumption) ?_) | (refine quiet_load_W rfl rfl (fun w' hC => by obtain ⟨k0, k1, k2, k3, k4, k5, k6, k7, k8, k9, k10, k11, k12, k13, k14, k15, k16, k17, k18⟩ := hC; assumption) ?_))
                      simp only [Act.put, List.setIfInBounds_toArray, List.set_cons_succ, List.set_cons_zero]
                      go_big_quiet_on)
                   | (go_big_quiet_op
                      first
                        | go_big_quiet_on
                        | (apply Exists.intro
                           refine ⟨fun w' hC => ?_, ?_⟩
                           · (first | (go_at_call 16; (with_reducible refine (tfull_c _ _ _ _).mono ?_); rintro e w1 ⟨rfl, hb1⟩) | (go_at_call 23; (with_reducible refine (rtfull_c _ _ _ _).mono ?_); rintro e w1 ⟨rfl, hb1⟩))
                             (try simp only [Vl.eta])
                             exact ⟨rfl, by first | exact hC | exact StPlC_keep _ _ hC hb1⟩
                           go_big_quiet_on))))
            refine wpQuiet_nil ?_
            intro w9 hC
            obtain ⟨k0, k1, k2, k3, k4, k5, k6, k7, k8, k9, k10, k11, k12, k13, k14, k15, k16, k17, k18⟩ := hC
            obtain ⟨hc9, hf9, hz9⟩ := bcell k18
            have hk9 := bblk k18
            go_wp2
            refine ⟨⟨k + 1, by omega, by omega, by simp, ?_, ?_, ?_, ?_, (by repeat' (first | (with_reducible exact Below.refl _ _) | (with_reducible assumption) | (with_reducible refine Below.alloc ?_ ?_ _) | (with_reducible refine Below.setCell ?_ ?_ _) | (with_reducible refine below_setRow ?_ ?_) | (with_reducible refine Below.drew ?_) | (with_reducible refine below_dn ?_ _) | (with_reducible refine Below.trans ?_ (Below.mono (by assumption) ?_)) | go_size))⟩, by simp [intOf]; omega⟩
            · rw [hm2]; simp [*, go_sem, ↓IntWalk.iteOmega]
            · intro i; simp [*, go_sem, ↓IntWalk.iteOmega]
            · rw [hm2]; simp [*, go_sem, ↓IntWalk.iteOmega]
            · intro i; simp [*, go_sem, ↓IntWalk.iteOmega]
      · obtain rfl : k = 100 := by omega
        obtain ⟨b, off, rfl, hr, hcells⟩ := (hA.keep hB) 100 hlt
        have zb := cell_lt (hcells 0 (by omega))
        have hld := ldA_run wr b (off + 100 * 10) (L 100) hcells
        simp only [Nat.reduceMul] at hld
        obtain ⟨sk, hsk⟩ : ∃ x, Hid (St.made L 100 = x) := ⟨_, Lib.hid rfl⟩
        rw [hsk.out] at hX hY
        rw [show ((100 : Nat) : Int) = 100 from rfl]
        clear hcells
        obtain ⟨gv, hgv⟩ : ∃ x, Hid (sk.get o n = x) := ⟨_, Lib.hid rfl⟩
        go_wp2_with fail
        refine (tget_c _ _ _ _).mono ?_
        rintro e wG ⟨rfl, hbwG⟩
        obtain ⟨hcwG, hfwG, hzwG⟩ := bcell hbwG
        have hkwG := bblk hbwG
        (try simp only [World.size_alloc, World.size_setCell, World.size_drew, setRow_size] at hcwG hfwG hzwG hkwG)
        rw [hgv.out]
        go_wp2_with fail
        refine (rtget_c _ _ _ _).mono ?_
        rintro e wI ⟨rfl, hbwI⟩
        obtain ⟨hcwI, hfwI, hzwI⟩ := bcell hbwI
        have hkwI := bblk hbwI
        (try simp only [World.size_alloc, World.size_setCell, World.size_drew, setRow_size] at hcwI hfwI hzwI hkwI)
        rw [hgv.out]
        go_wp2_with fail
        refine wp_region_class (StPlE sk gv w1.heap.size w2.heap.size wG.heap.size wI.heap.size wI) (by kernel_rfl) (by kernel_rfl) ?_ ?_
        · refine ⟨?_, ?_, ?_, ?_, ?_, ?_, ?_, ?_, ?_, ?_, ?_, ?_, ?_, ?_, ?_, ?_, (by repeat' (first | (with_reducible exact Below.refl _ _) | (with_reducible assumption) | (with_reducible refine Below.alloc ?_ ?_ _) | (with_reducible refine Below.setCell ?_ ?_ _) | (with_reducible refine below_setRow ?_ ?_) | (with_reducible refine Below.drew ?_) | (with_reducible refine below_dn ?_ _) | (with_reducible refine Below.trans ?_ (Below.mono (by assumption) ?_)) | go_size))⟩
          all_goals first | (simp [*, go_sem, ↓IntWalk.iteOmega]; done)
        intro hN
        (try simp only [List.append])
        repeat (first
          | go_big_quiet_skip
          | (go_big_quiet_want
             first
               | ((first | (refine quiet_load_State rfl rfl (fun w' hC => by obtain ⟨k0, k1, k2, k3, k4, k5, k6, k7, k8, k9, k10, k11, k12, k13, k14, k15, k16⟩ := hC; assumption) ?_) | (refine quiet_load_Val rfl rfl (fun w' hC => by obtain ⟨k0, k1, k2, k3, k4, k5, k6, k7, k8, k9, k10, k11, k12, k13, k14, k15, k16⟩ := hC; exact ⟨by assumption, by assumption, by assumption, by assumption, by assumption, by assumption, by assumption⟩) ?_) | (refine quiet_load_W rfl rfl (fun w' hC => by obtain ⟨k0, k1, k2, k3, k4, k5, k6, k7, k8, k9, k10, k11, k12, k13, k14, k15, k16⟩ := hC; assumption) ?_))
                  simp only [Act.put, List.setIfInBounds_toArray, List.set_cons_succ, List.set_cons_zero]
                  go_big_quiet_on)
               | (go_big_quiet_op
                  first
                    | go_big_quiet_on
                    | (apply Exists.intro
                       refine ⟨fun w' hC => ?_, ?_⟩
                       · (first | (go_at_call 16; (with_reducible refine (tfull_c _ _ _ _).mono ?_); rintro e w1 ⟨rfl, hb1⟩) | (go_at_call 23; (with_reducible refine (rtfull_c _ _ _ _).mono ?_); rintro e w1 ⟨rfl, hb1⟩))
                         (try simp only [Vl.eta])
                         exact ⟨rfl, by first | exact hC | exact StPlE_keep _ _ hC hb1⟩
                       go_big_quiet_on))))
        refine wpQuiet_nil ?_
        intro w9 hC
        obtain ⟨k0, k1, k2, k3, k4, k5, k6, k7, k8, k9, k10, k11, k12, k13, k14, k15, k16⟩ := hC
        go_wp2
        go_ret
        exact ⟨rfl, (by repeat' (first | (with_reducible exact Below.refl _ _) | (with_reducible assumption) | (with_reducible refine Below.alloc ?_ ?_ _) | (with_reducible refine Below.setCell ?_ ?_ _) | (with_reducible refine below_setRow ?_ ?_) | (with_reducible refine Below.drew ?_) | (with_reducible refine below_dn ?_ _) | (with_reducible refine Below.trans ?_ (Below.mono (by assumption) ?_)) | go_size))⟩
    · obtain ⟨sk, hsk⟩ : ∃ x, Hid (St.made L k = x) := ⟨_, Lib.hid rfl⟩
      rw [hsk.out] at hX hY
      obtain ⟨gv, hgv⟩ : ∃ x, Hid (sk.get o n = x) := ⟨_, Lib.hid rfl⟩
      go_wp2_with fail
      refine (tget_c _ _ _ _).mono ?_
      rintro e wG ⟨rfl, hbwG⟩
      obtain ⟨hcwG, hfwG, hzwG⟩ := bcell hbwG
      have hkwG := bblk hbwG
      (try simp only [World.size_alloc, World.size_setCell, World.size_drew, setRow_size] at hcwG hfwG hzwG hkwG)
      rw [hgv.out]
      go_wp2_with fail
      refine (rtget_c _ _ _ _).mono ?_
      rintro e wI ⟨rfl, hbwI⟩
      obtain ⟨hcwI, hfwI, hzwI⟩ := bcell hbwI
      have hkwI := bblk hbwI
      (try simp only [World.size_alloc, World.size_setCell, World.size_drew, setRow_size] at hcwI hfwI hzwI hkwI)
      rw [hgv.out]
      go_wp2_with fail
      refine wp_region_class (StPlE sk gv w1.heap.size w2.heap.size wG.heap.size wI.heap.size wI) (by kernel_rfl) (by kernel_rfl) ?_ ?_
      · refine ⟨?_, ?_, ?_, ?_, ?_, ?_, ?_, ?_, ?_, ?_, ?_, ?_, ?_, ?_, ?_, ?_, (by repeat' (first | (with_reducible exact Below.refl _ _) | (with_reducible assumption) | (with_reducible refine Below.alloc ?_ ?_ _) | (with_reducible refine Below.setCell ?_ ?_ _) | (with_reducible refine below_setRow ?_ ?_) | (with_reducible refine Below.drew ?_) | (with_reducible refine below_dn ?_ _) | (with_reducible refine Below.trans ?_ (Below.mono (by assumption) ?_)) | go_size))⟩
        all_goals first | (simp [*, go_sem, ↓IntWalk.iteOmega]; done)
      intro hN
      (try simp only [List.append])
      repeat (first
        | go_big_quiet_skip
        | (go_big_quiet_want
           first
             | ((first | (refine quiet_load_State rfl rfl (fun w' hC => by obtain ⟨k0, k1, k2, k3, k4, k5, k6, k7, k8, k9, k10, k11, k12, k13, k14, k15, k16⟩ := hC; assumption) ?_) | (refine quiet_load_Val rfl rfl (fun w' hC => by obtain ⟨k0, k1, k2, k3, k4, k5, k6, k7, k8, k9, k10, k11, k12, k13, k14, k15, k16⟩ := hC; exact ⟨by assumption, by assumption, by assumption, by assumption, by assumption, by assumption, by assumption⟩) ?_) | (refine quiet_load_W rfl rfl (fun w' hC => by obtain ⟨k0, k1, k2, k3, k4, k5, k6, k7, k8, k9, k10, k11, k12, k13, k14, k15, k16⟩ := hC; assumption) ?_))
                simp only [Act.put, List.setIfInBounds_toArray, List.set_cons_succ, List.set_cons_zero]
                go_big_quiet_on)
             | (go_big_quiet_op
                first
                  | go_big_quiet_on
                  | (apply Exists.intro
                     refine ⟨fun w' hC => ?_, ?_⟩
                     · (first | (go_at_call 16; (with_reducible refine (tfull_c _ _ _ _).mono ?_); rintro e w1 ⟨rfl, hb1⟩) | (go_at_call 23; (with_reducible refine (rtfull_c _ _ _ _).mono ?_); rintro e w1 ⟨rfl, hb1⟩))
                       (try simp only [Vl.eta])
                       exact ⟨rfl, by first | exact hC | exact StPlE_keep _ _ hC hb1⟩
                     go_big_quiet_on))))
      refine wpQuiet_nil ?_
      intro w9 hC
      obtain ⟨k0, k1, k2, k3, k4, k5, k6, k7, k8, k9, k10, k11, k12, k13, k14, k15, k16⟩ := hC
      go_wp2
      go_ret
      exact ⟨rfl, (by repeat' (first | (with_reducible exact Below.refl _ _) | (with_reducible assumption) | (with_reducible refine Below.alloc ?_ ?_ _) | (with_reducible refine Below.setCell ?_ ?_ _) | (with_reducible refine below_setRow ?_ ?_) | (with_reducible refine Below.drew ?_) | (with_reducible refine below_dn ?_ _) | (with_reducible refine Below.trans ?_ (Below.mono (by assumption) ?_)) | go_size))⟩

end Hk
