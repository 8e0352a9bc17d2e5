/- The statements' own function that makes a state of acts; old memory is as it was. No condition but those in each statement. -/
import Derived.Test.YtjeanjbjngbfcaaProg
import Derived.Test.YtjeanjbjngbfcaaGp
import Derived.Test.YtjeanjbjngbfcaaGu
import Derived.Test.YtjeanjbjngbfcaaSt1
import Derived.Test.YtjeanjbjngbfcaaSt2
import Derived.Test.YtjeanjbjngbfcaaSt3
import Derived.Test.YtjeanjbjngbfcaaSt5
import Derived.Test.YtjeanjbjngbfcaaSt8
import Derived.Test.YtjeanjbjngbfcaaRt1
import Derived.Test.YtjeanjbjngbfcaaRt2
import Derived.Test.YtjeanjbjngbfcaaRt3
import Derived.Test.YtjeanjbjngbfcaaRt7
import Derived.Test.YtjeanjbjngbfcaaSl14
import Derived.Test.YtjeanjbjngbfcaaSl15
import Derived.Test.YtjeanjbjngbfcaaGl
namespace Hk
open Go Go.RowKit Go.Proofs
set_option linter.unusedSimpArgs false
set_option linter.unusedVariables false
set_option maxRecDepth 100000
attribute [go_sem] Tn.eta Sp.eta Fa.eta Vl.eta
def ldA (x : Value) : Sem Value := Instr.loadAt 46 x
@[go_sem ↓] theorem ldA_at (x : Value) : Instr.loadAt 46 x = ldA x := rfl
theorem ldA_var (w : World) (b o : Nat) (a : Ac) (h : ∀ j, j < 10 → w.cell? ⟨b, o + j, none⟩ = some (a.cell j)) : Sem.run Try.prog (loadVar 46 ⟨b, o, none⟩) w = .ok (.agg #[.int .u8 a.k, .int .i64 a.o, .int .i64 a.n, .int .u8 a.v.k, .int .u64 (N a.v.f.t.v), .int .u64 (N a.v.f.t.m), .int .u64 (N a.v.f.s.lo), .int .u64 (N a.v.f.s.hi), .int .i64 a.v.i, .int .i64 a.v.off]) w := by
  have hl := run_loadCells (P := Try.prog) w ⟨b, o, none⟩ 10 a.cell (fun j hj => by rw [addr_add]; exact h j hj)
  simp only [loadVar, Sem.run_bind, Try.isAgg46 w, Try.sizeOf46 w, hl, Result.andThen, if_true, Sem.run_pure]
  rfl
theorem ldA_run (w : World) (b o : Nat) (a : Ac) (h : ∀ j, j < 10 → w.cell? ⟨b, o + j, none⟩ = some (a.cell j)) : Sem.run Try.prog (ldA (.pointer (some ⟨b, o, none⟩))) w = .ok (.agg #[.int .u8 a.k, .int .i64 a.o, .int .i64 a.n, .int .u8 a.v.k, .int .u64 (N a.v.f.t.v), .int .u64 (N a.v.f.t.m), .int .u64 (N a.v.f.s.lo), .int .u64 (N a.v.f.s.hi), .int .i64 a.v.i, .int .i64 a.v.off]) w := by
  simp only [ldA, Instr.loadAt, Instr.sureAddr, Sem.run_bind, Sem.run_pure, Result.andThen]
  exact ldA_var w b o a h

set_option maxHeartbeats 4000000 in
theorem tmade_c0 (p : Option Addr) (len cap : Nat) (hlen : len ≤ 9223372036854775807) (L : Nat → Ac) (s0 : St) (hs0 : Hid (s0 = St.first)) (w : World) (hA : Acts w p len L) : Calls Try.prog 11 #[.slice p len cap] w fun e w' => e = .returned (.agg (St.cells (St.madeN L len))) ∧ Below w.heap.size w w' := by
  go_enter Try.func11, Try.ntmps11
  go_wp2_with fail
  refine (rtfirst_v s0 hs0 _).mono ?_
  rintro e w1 ⟨rfl, hb1⟩
  obtain ⟨hc1, hf1, hz1⟩ := bcell hb1
  have hk1 := bblk hb1
  (try simp only [World.size_alloc, World.size_setCell, World.size_drew, setRow_size] at hc1 hf1 hz1 hk1)
  go_wp2
  go_loopw [11] (fun c wr => ∃ k : Nat, k ≤ len ∧ k ≤ 100 ∧ c = .int .i64 (k : Int) ∧ blk wr w1.heap.size = (St.made L k).cells ∧ (∀ i, wr.frozen? ⟨w1.heap.size, i, none⟩ = false) ∧ blk wr w.heap.size = St.zero.cells ∧ (∀ i, wr.frozen? ⟨w.heap.size, i, none⟩ = false) ∧ Below w.heap.size w wr) (fun c _ => len - (intOf c).toNat)
  case atStart =>
    refine ⟨0, by omega, by omega, rfl, ?_, ?_, ?_, ?_, (by repeat' (first | (with_reducible exact Below.refl _ _) | (with_reducible assumption) | (with_reducible refine Below.alloc ?_ ?_ _) | (with_reducible refine Below.setCell ?_ ?_ _) | (with_reducible refine below_setRow ?_ ?_) | (with_reducible refine Below.drew ?_) | (with_reducible refine below_dn ?_ _) | (with_reducible refine Below.trans ?_ (Below.mono (by assumption) ?_)) | go_size))⟩
    · rw [show St.made L 0 = s0 from hs0.out.symm]; simp [*, go_sem, ↓IntWalk.iteOmega]
    · intro i; simp [*, go_sem, ↓IntWalk.iteOmega]
    · simp [*, go_sem, ↓IntWalk.iteOmega]
    · intro i; simp [*, go_sem, ↓IntWalk.iteOmega]
  case round =>
    obtain ⟨k, hk, hk100, rfl, hX, hfX, hZ, hfZ, hB⟩ := hrel
    clear hb1 hc1 hf1 hk1
    have zB : w1.heap.size < wr.heap.size := blk_lt (by rw [hX, St.cells_size]; decide)
    by_cases hlt : k < len
    · by_cases hcut : k < 100
      · obtain ⟨b, off, rfl, hr, hcells⟩ := (hA.keep hB) k hlt
        have zb := cell_lt (hcells 0 (by omega))
        have hld := ldA_run wr b (off + k * 10) (L k) hcells
        have hm : St.made L (k + 1) = (St.made L k).act (L k) := rfl
        have hmh := Lib.hid hm
        clear hm
        obtain ⟨pt, hpt⟩ : ∃ x, Hid ((St.made L k).put (L k).o (L k).n (L k).v = x) := ⟨_, Lib.hid rfl⟩
        obtain ⟨pe, hpe⟩ : ∃ x, Hid ((St.made L k).putE (L k).o (L k).n (L k).v = x) := ⟨_, Lib.hid rfl⟩
        obtain ⟨st, hst⟩ : ∃ x, Hid ((St.made L k).set (L k).o (L k).v = x) := ⟨_, Lib.hid rfl⟩
        obtain ⟨se, hse⟩ : ∃ x, Hid ((if (St.made L k).setOk (L k).o (L k).v = true then (0 : Int) else 1) = x) := ⟨_, Lib.hid rfl⟩
        obtain ⟨⟨kl, kh⟩, _, _⟩ := hr
        go_wp2_with fail
        refine (rtput_c' _ _ _ _ _ _ _ _ _ _ _).mono ?_
        rintro e wP ⟨rfl, hbwP⟩
        obtain ⟨hcwP, hfwP, hzwP⟩ := bcell hbwP
        have hkwP := bblk hbwP
        (try simp only [World.size_alloc, World.size_setCell, World.size_drew, setRow_size] at hcwP hfwP hzwP hkwP)
        (try simp only [Vl.eta, Tn.eta, Sp.eta, Fa.eta])
        rw [hpt.out, hpe.out]
        by_cases h3 : (L k).k % 4 = 3
        · have h3h := Lib.hid h3
          go_wp2_with fail
          refine (rtset_c' _ _ _ _ _ _ _ _ _ _).mono ?_
          rintro e wS ⟨rfl, hbwS⟩
          obtain ⟨hcwS, hfwS, hzwS⟩ := bcell hbwS
          have hkwS := bblk hbwS
          (try simp only [World.size_alloc, World.size_setCell, World.size_drew, setRow_size] at hcwS hfwS hzwS hkwS)
          (try simp only [Vl.eta, Tn.eta, Sp.eta, Fa.eta])
          rw [hst.out, hse.out]
          by_cases he : se = 0
          · have hm2 : St.made L (k + 1) = st := by rw [hmh.out]; unfold St.act St.actE St.actT; rw [if_pos h3h.out, if_pos h3h.out, hse.out, if_pos he, hst.out]
            go_wp2
            refine ⟨⟨k + 1, by omega, by omega, by simp, ?_, ?_, ?_, ?_, (by repeat' (first | (with_reducible exact Below.refl _ _) | (with_reducible assumption) | (with_reducible refine Below.alloc ?_ ?_ _) | (with_reducible refine Below.setCell ?_ ?_ _) | (with_reducible refine below_setRow ?_ ?_) | (with_reducible refine Below.drew ?_) | (with_reducible refine below_dn ?_ _) | (with_reducible refine Below.trans ?_ (Below.mono (by assumption) ?_)) | go_size))⟩, by simp [intOf]; omega⟩
            · rw [hm2]; simp [*, go_sem, ↓IntWalk.iteOmega]
            · intro i; simp [*, go_sem, ↓IntWalk.iteOmega]
            · simp [*, go_sem, ↓IntWalk.iteOmega]
            · intro i; simp [*, go_sem, ↓IntWalk.iteOmega]
          · have hm2 : St.made L (k + 1) = St.made L k := by rw [hmh.out]; unfold St.act St.actE; rw [if_pos h3h.out, hse.out, if_neg he]
            go_wp2
            refine ⟨⟨k + 1, by omega, by omega, by simp, ?_, ?_, ?_, ?_, (by repeat' (first | (with_reducible exact Below.refl _ _) | (with_reducible assumption) | (with_reducible refine Below.alloc ?_ ?_ _) | (with_reducible refine Below.setCell ?_ ?_ _) | (with_reducible refine below_setRow ?_ ?_) | (with_reducible refine Below.drew ?_) | (with_reducible refine below_dn ?_ _) | (with_reducible refine Below.trans ?_ (Below.mono (by assumption) ?_)) | go_size))⟩, by simp [intOf]; omega⟩
            · rw [hm2]; simp [*, go_sem, ↓IntWalk.iteOmega]
            · intro i; simp [*, go_sem, ↓IntWalk.iteOmega]
            · simp [*, go_sem, ↓IntWalk.iteOmega]
            · intro i; simp [*, go_sem, ↓IntWalk.iteOmega]
        · have h3h := Lib.hid h3
          by_cases he : pe = 0
          · have hm2 : St.made L (k + 1) = pt := by rw [hmh.out]; unfold St.act St.actE St.actT; rw [if_neg h3h.out, if_neg h3h.out, hpe.out, if_pos he, hpt.out]
            go_wp2
            refine ⟨⟨k + 1, by omega, by omega, by simp, ?_, ?_, ?_, ?_, (by repeat' (first | (with_reducible exact Below.refl _ _) | (with_reducible assumption) | (with_reducible refine Below.alloc ?_ ?_ _) | (with_reducible refine Below.setCell ?_ ?_ _) | (with_reducible refine below_setRow ?_ ?_) | (with_reducible refine Below.drew ?_) | (with_reducible refine below_dn ?_ _) | (with_reducible refine Below.trans ?_ (Below.mono (by assumption) ?_)) | go_size))⟩, by simp [intOf]; omega⟩
            · rw [hm2]; simp [*, go_sem, ↓IntWalk.iteOmega]
            · intro i; simp [*, go_sem, ↓IntWalk.iteOmega]
            · simp [*, go_sem, ↓IntWalk.iteOmega]
            · intro i; simp [*, go_sem, ↓IntWalk.iteOmega]
          · have hm2 : St.made L (k + 1) = St.made L k := by rw [hmh.out]; unfold St.act St.actE; rw [if_neg h3h.out, hpe.out, if_neg he]
            go_wp2
            refine ⟨⟨k + 1, by omega, by omega, by simp, ?_, ?_, ?_, ?_, (by repeat' (first | (with_reducible exact Below.refl _ _) | (with_reducible assumption) | (with_reducible refine Below.alloc ?_ ?_ _) | (with_reducible refine Below.setCell ?_ ?_ _) | (with_reducible refine below_setRow ?_ ?_) | (with_reducible refine Below.drew ?_) | (with_reducible refine below_dn ?_ _) | (with_reducible refine Below.trans ?_ (Below.mono (by assumption) ?_)) | go_size))⟩, by simp [intOf]; omega⟩
            · rw [hm2]; simp [*, go_sem, ↓IntWalk.iteOmega]
            · intro i; simp [*, go_sem, ↓IntWalk.iteOmega]
            · simp [*, go_sem, ↓IntWalk.iteOmega]
            · intro i; simp [*, go_sem, ↓IntWalk.iteOmega]
      · obtain rfl : k = 100 := by omega
        obtain ⟨b, off, rfl, hr, hcells⟩ := (hA.keep hB) 100 hlt
        have zb := cell_lt (hcells 0 (by omega))
        have hld := ldA_run wr b (off + 100 * 10) (L 100) hcells
        simp only [Nat.reduceMul] at hld
        rw [show ((100 : Nat) : Int) = 100 from rfl]
        have hE := Lib.hid (St.made_cut (L := L) hlt)
        go_wp2
        refine bodyPost_ret (v := .agg (St.cells (St.madeN L len))) ?_ rfl ⟨rfl, (by repeat' (first | (with_reducible exact Below.refl _ _) | (with_reducible assumption) | (with_reducible refine Below.alloc ?_ ?_ _) | (with_reducible refine Below.setCell ?_ ?_ _) | (with_reducible refine below_setRow ?_ ?_) | (with_reducible refine Below.drew ?_) | (with_reducible refine below_dn ?_ _) | (with_reducible refine Below.trans ?_ (Below.mono (by assumption) ?_)) | go_size))⟩
        rw [← hE.out]
        exact results_st (fn := Try.f11) rfl _ _ w.heap.size _ rfl (by simp [*, go_sem, ↓IntWalk.iteOmega]) (by simp [*, go_sem, ↓IntWalk.iteOmega])
    · have hE := Lib.hid (St.made_all (L := L) hlt hk hk100)
      go_wp2
      refine bodyPost_ret (v := .agg (St.cells (St.madeN L len))) ?_ rfl ⟨rfl, (by repeat' (first | (with_reducible exact Below.refl _ _) | (with_reducible assumption) | (with_reducible refine Below.alloc ?_ ?_ _) | (with_reducible refine Below.setCell ?_ ?_ _) | (with_reducible refine below_setRow ?_ ?_) | (with_reducible refine Below.drew ?_) | (with_reducible refine below_dn ?_ _) | (with_reducible refine Below.trans ?_ (Below.mono (by assumption) ?_)) | go_size))⟩
      rw [← hE.out]
      exact results_st (fn := Try.f11) rfl _ _ w.heap.size _ rfl (by simp [*, go_sem, ↓IntWalk.iteOmega]) (by simp [*, go_sem, ↓IntWalk.iteOmega])

end Hk
