/- The statement StateFirst of the Go text: it returns true, and old memory is as it was. No condition but the bounds of the arguments' kinds, how long a slice in memory may be, and what stands in memory. -/
import Derived.Test.YtjeanjbjngbfcaaProg
import Derived.Test.YtjeanjbjngbfcaaGp
import Derived.Test.YtjeanjbjngbfcaaGz
import Derived.Test.YtjeanjbjngbfcaaSt1
import Derived.Test.YtjeanjbjngbfcaaSt2
import Derived.Test.YtjeanjbjngbfcaaSt3
import Derived.Test.YtjeanjbjngbfcaaSt5
import Derived.Test.YtjeanjbjngbfcaaSt8
import Derived.Test.YtjeanjbjngbfcaaSt9
import Derived.Test.YtjeanjbjngbfcaaSteq
import Derived.Test.YtjeanjbjngbfcaaLds
import Derived.Test.YtjeanjbjngbfcaaSl13
import Derived.Test.YtjeanjbjngbfcaaSl14
import Derived.Test.YtjeanjbjngbfcaaSl15
import Derived.Test.YtjeanjbjngbfcaaSl16
import Derived.Test.YtjeanjbjngbfcaaGl
import Derived.Laws.OwnMore
import Derived.Deep.AppendLies
import Derived.OwnWalk
namespace Hk
open Go Go.RowKit Go.Proofs
set_option linter.unusedSimpArgs false
set_option linter.unusedVariables false
set_option maxRecDepth 100000
attribute [go_sem] Tn.eta Sp.eta Fa.eta Vl.eta
attribute [-go_sem] zero_cells
theorem acts_run {w : World} {p : Option Addr} {len : Nat} {L : Nat → Ac} (hA : Acts w p len L) {i : Nat} (hi : i < len) : ∃ b off, p = some ⟨b, off, none⟩ ∧ (L i).right ∧ ∀ j, j < 10 → w.cell? ⟨b, off + i * 10 + j, none⟩ = some ((L i).cell j) := hA i hi
/-- a row of the call's own, where all that stood is as it was -/
theorem own_below {w w' : World} {B e k n : Nat} {v : Value} {xs : List Value} (h : w.ownsRow B e k v n xs) (hb : Below w.heap.size w w') : w'.ownsRow B e k v n xs := by
  obtain ⟨h1, h2⟩ := h
  refine ⟨h1, ?_⟩
  rcases h2 with h | ⟨g, cap, cur, hv, hB, hh, rest⟩
  · exact .inl h
  · refine .inr ⟨g, cap, cur, hv, hB, (hb.block g ?_).trans hh, rest⟩
    rcases Nat.lt_or_ge g w.heap.size with h | h
    · exact h
    · rw [Array.getElem?_eq_none h] at hh; cases hh
/-- ten cells, one by one -/
theorem cells10 {a : Ac} {f : Nat → Option Value} (h0 : f 0 = some (a.cell 0)) (h1 : f 1 = some (a.cell 1)) (h2 : f 2 = some (a.cell 2)) (h3 : f 3 = some (a.cell 3)) (h4 : f 4 = some (a.cell 4)) (h5 : f 5 = some (a.cell 5)) (h6 : f 6 = some (a.cell 6)) (h7 : f 7 = some (a.cell 7)) (h8 : f 8 = some (a.cell 8)) (h9 : f 9 = some (a.cell 9)) : ∀ j u, a.cells.toList[j]? = some u → f j = some u := fun j u hu => by
  match j with
  | 0 => rw [h0]; simpa [Ac.cells, Ac.cell, Vl.cell] using hu
  | 1 => rw [h1]; simpa [Ac.cells, Ac.cell, Vl.cell] using hu
  | 2 => rw [h2]; simpa [Ac.cells, Ac.cell, Vl.cell] using hu
  | 3 => rw [h3]; simpa [Ac.cells, Ac.cell, Vl.cell] using hu
  | 4 => rw [h4]; simpa [Ac.cells, Ac.cell, Vl.cell] using hu
  | 5 => rw [h5]; simpa [Ac.cells, Ac.cell, Vl.cell] using hu
  | 6 => rw [h6]; simpa [Ac.cells, Ac.cell, Vl.cell] using hu
  | 7 => rw [h7]; simpa [Ac.cells, Ac.cell, Vl.cell] using hu
  | 8 => rw [h8]; simpa [Ac.cells, Ac.cell, Vl.cell] using hu
  | 9 => rw [h9]; simpa [Ac.cells, Ac.cell, Vl.cell] using hu
  | k + 10 => simp [Ac.cells] at hu
theorem act_info : (Try.prog.info? 46).map (fun i => (i.zero, i.size, i.bytes)) = some (some (.agg #[.int .u8 0, .int .i64 0, .int .i64 0, .int .u8 0, .int .u64 0, .int .u64 0, .int .u64 0, .int .u64 0, .int .i64 0, .int .i64 0]), 10, 80) := by kernel_rfl
theorem ac_one (a : Ac) : ∀ u ∈ a.cells.toList, u.oneCell' = true := by simp [Ac.cells, Value.oneCell']

def StFstC (s : St) (b g : Nat) (w : World) (w' : World) : Prop := blk w' b = s.cells ∧ w'.cell? ⟨g, 0, none⟩ = some (.int .u8 0) ∧ w'.cell? ⟨g, 1, none⟩ = some (.int .u64 (N 0#64)) ∧ w'.cell? ⟨g, 2, none⟩ = some (.int .u64 (N 0#64)) ∧ w'.cell? ⟨g, 3, none⟩ = some (.int .u64 (N 0#64)) ∧ w'.cell? ⟨g, 4, none⟩ = some (.int .u64 (N 0#64)) ∧ w'.cell? ⟨g, 5, none⟩ = some (.int .i64 0) ∧ w'.cell? ⟨g, 6, none⟩ = some (.int .i64 0) ∧ Below w.heap.size w w'
theorem StFstC_keep {s : St} {b g : Nat} {w : World} (w' w1 : World) (h : StFstC s b g w w') (hb : Below w'.heap.size w' w1) : StFstC s b g w w1 := by
  obtain ⟨k0, k1, k2, k3, k4, k5, k6, k7, k8⟩ := h
  exact ⟨blk_keep hb k0 (by rw [St.cells_size]; decide), cell_keep hb k1, cell_keep hb k2, cell_keep hb k3, cell_keep hb k4, cell_keep hb k5, cell_keep hb k6, cell_keep hb k7, below_next k8 hb⟩

@[go_sem] theorem ldA_new (w : World) (a : Ac) : Sem.run Try.prog (ldA (.pointer (some ⟨w.heap.size, 0, none⟩))) (w.alloc (.cells #[.int .u8 a.k, .int .i64 a.o, .int .i64 a.n, .int .u8 a.v.k, .int .u64 (N a.v.f.t.v), .int .u64 (N a.v.f.t.m), .int .u64 (N a.v.f.s.lo), .int .u64 (N a.v.f.s.hi), .int .i64 a.v.i, .int .i64 a.v.off] 46)) = .ok (.agg #[.int .u8 a.k, .int .i64 a.o, .int .i64 a.n, .int .u8 a.v.k, .int .u64 (N a.v.f.t.v), .int .u64 (N a.v.f.t.m), .int .u64 (N a.v.f.s.lo), .int .u64 (N a.v.f.s.hi), .int .i64 a.v.i, .int .i64 a.v.off]) (w.alloc (.cells #[.int .u8 a.k, .int .i64 a.o, .int .i64 a.n, .int .u8 a.v.k, .int .u64 (N a.v.f.t.v), .int .u64 (N a.v.f.t.m), .int .u64 (N a.v.f.s.lo), .int .u64 (N a.v.f.s.hi), .int .i64 a.v.i, .int .i64 a.v.off] 46)) := by
  refine ldA_run _ _ 0 a fun j hj => ?_
  match j, hj with
  | 0, _ => simp [go_sem, Ac.cell]
  | 1, _ => simp [go_sem, Ac.cell]
  | 2, _ => simp [go_sem, Ac.cell]
  | 3, _ => simp [go_sem, Ac.cell, Vl.cell]
  | 4, _ => simp [go_sem, Ac.cell, Vl.cell]
  | 5, _ => simp [go_sem, Ac.cell, Vl.cell]
  | 6, _ => simp [go_sem, Ac.cell, Vl.cell]
  | 7, _ => simp [go_sem, Ac.cell, Vl.cell]
  | 8, _ => simp [go_sem, Ac.cell, Vl.cell]
  | 9, _ => simp [go_sem, Ac.cell, Vl.cell]
  | j + 10, h => exact absurd h (by omega)

set_option maxHeartbeats 4000000 in
theorem stateFirst_walk (p : Option Addr) (len cap : Nat) (hlen : len ≤ 9223372036854775807) (hby : len * 80 ≤ 140737488351232) (L : Nat → Ac) (x : Int) (_ : -9223372036854775808 ≤ x ∧ x ≤ 9223372036854775807) (y : Int) (_ : -9223372036854775808 ≤ y ∧ y ≤ 9223372036854775807) (w : World) (hA : Acts w p len L) : Calls Try.prog 9 #[.slice p len cap, .int .i64 x, .int .i64 y] w fun e w' => e = .returned (.bool true) ∧ Below w.heap.size w w' := by
  obtain ⟨i0, hi0, hz0, hz1, hz2⟩ := info_parts act_info
  obtain ⟨s0, hs0⟩ : ∃ s0 : St, Hid (s0 = St.first) := ⟨_, Lib.hid rfl⟩
  go_enter Try.func9, Try.ntmps9
  go_wp2_with fail
  refine (tshown_c _).mono ?_
  rintro e wH ⟨rfl, hbwH⟩
  obtain ⟨hcwH, hfwH, hzwH⟩ := bcell hbwH
  have hkwH := bblk hbwH
  (try simp only [World.size_alloc, World.size_setCell, World.size_drew, setRow_size] at hcwH hfwH hzwH hkwH)
  go_wp2_with fail
  go_loopw [8, 17] (fun sv c wr => ∃ (k : Nat) (X : List Ac), k ≤ len ∧ c = .int .i64 (k : Int) ∧ wr.ownsRow w.heap.size 46 10 sv X.length (acells X) ∧ (∀ a ∈ X, a.right ∧ ¬ a.k % 4 = 3) ∧ X.length ≤ k ∧ Below w.heap.size w wr) (fun _ c _ => len - (intOf c).toNat)
  case atStart => exact ⟨0, [], by omega, rfl, ⟨by simp [acells], .inl ⟨rfl, rfl⟩⟩, by simp, by simp, (by repeat' (first | (with_reducible exact Below.refl _ _) | (with_reducible assumption) | (with_reducible refine Below.alloc ?_ ?_ _) | (with_reducible refine Below.setCell ?_ ?_ _) | (with_reducible refine below_setRow ?_ ?_) | (with_reducible refine Below.drew ?_) | (with_reducible refine below_dn ?_ _) | (with_reducible refine Below.trans ?_ (Below.mono (by assumption) ?_)) | go_size))⟩
  case round =>
    obtain ⟨k, X, hk, rfl, hown, hX, hXk, hB⟩ := hrel
    clear hbwH hcwH hfwH hzwH hkwH
    have zw := hB.size
    by_cases hlt : k < len
    · obtain ⟨b, off, rfl, hr, hcells⟩ := (hA.keep hB) k hlt
      have zb := cell_lt (hcells 0 (by omega))
      have hld := ldA_run wr b (off + k * 10) (L k) hcells
      have hrh := Lib.hid hr
      obtain ⟨⟨kl, kh⟩, _, _⟩ := hr
      by_cases h3 : (L k).k % 4 = 3
      · have h3h := Lib.hid h3
        go_wp2_with fail
        refine ⟨⟨k + 1, X, by omega, by simp, own_below hown (by repeat' (first | (with_reducible exact Below.refl _ _) | (with_reducible assumption) | (with_reducible refine Below.alloc ?_ ?_ _) | (with_reducible refine Below.setCell ?_ ?_ _) | (with_reducible refine below_setRow ?_ ?_) | (with_reducible refine Below.drew ?_) | (with_reducible refine below_dn ?_ _) | (with_reducible refine Below.trans ?_ (Below.mono (by assumption) ?_)) | go_size)), hX, by omega, (by repeat' (first | (with_reducible exact Below.refl _ _) | (with_reducible assumption) | (with_reducible refine Below.alloc ?_ ?_ _) | (with_reducible refine Below.setCell ?_ ?_ _) | (with_reducible refine below_setRow ?_ ?_) | (with_reducible refine Below.drew ?_) | (with_reducible refine below_dn ?_ _) | (with_reducible refine Below.trans ?_ (Below.mono (by assumption) ?_)) | go_size))⟩, by simp [intOf]; omega⟩
      · have h3h := Lib.hid h3
        go_wp2_with (at_builtin; (refine wpList_append_own _ rfl (.tmp 25) (.tmp 27) _ rfl w.heap.size 46 i0 _ 10 80 Try.underlying22 hi0 hz0 hz1 hz2 rfl (by omega) _ X.length (acells X) rfl (own_below hown (by repeat' (first | (with_reducible exact Below.refl _ _) | (with_reducible assumption) | (with_reducible refine Below.alloc ?_ ?_ _) | (with_reducible refine Below.setCell ?_ ?_ _) | (with_reducible refine below_setRow ?_ ?_) | (with_reducible refine Below.drew ?_) | (with_reducible refine below_dn ?_ _) | (with_reducible refine Below.trans ?_ (Below.mono (by assumption) ?_)) | go_size))) ⟨wr.heap.size + 1, 0, none⟩ 1 1 (L k).cells.toList rfl (by simp [Ac.cells]) (cells10 (by simp [go_sem, Ac.cell, Vl.cell]) (by simp [go_sem, Ac.cell, Vl.cell]) (by simp [go_sem, Ac.cell, Vl.cell]) (by simp [go_sem, Ac.cell, Vl.cell]) (by simp [go_sem, Ac.cell, Vl.cell]) (by simp [go_sem, Ac.cell, Vl.cell]) (by simp [go_sem, Ac.cell, Vl.cell]) (by simp [go_sem, Ac.cell, Vl.cell]) (by simp [go_sem, Ac.cell, Vl.cell]) (by simp [go_sem, Ac.cell, Vl.cell]) ) (ac_one _) (by simp only [maxLen]; omega) (by omega) (by simp; omega) ?_; intro v1 w1 hown1 hg1 hat1))
        refine ⟨⟨k + 1, X ++ [L k], by omega, by simp, by rw [acells_add, List.length_append]; exact hown1, fun a ha => ?_, by rw [List.length_append]; simp; omega, Below.grown (by repeat' (first | (with_reducible exact Below.refl _ _) | (with_reducible assumption) | (with_reducible refine Below.alloc ?_ ?_ _) | (with_reducible refine Below.setCell ?_ ?_ _) | (with_reducible refine below_setRow ?_ ?_) | (with_reducible refine Below.drew ?_) | (with_reducible refine below_dn ?_ _) | (with_reducible refine Below.trans ?_ (Below.mono (by assumption) ?_)) | go_size)) hg1 (by simp; omega) (fun j e => (hown.lt j e).1)⟩, by simp [intOf]; omega⟩
        rcases List.mem_append.1 ha with h | h
        · exact hX a h
        · rw [List.mem_singleton.1 h]; exact ⟨hrh.out, h3h.out⟩
    · obtain rfl : k = len := by omega
      obtain ⟨pp, cap2, rfl, hA2⟩ := acts_own hown (fun a h => (hX a h).1)
      have hin := St.madeN_in (L := actAt X) (len := X.length) (fun i hi => by unfold actAt; rw [List.getElem?_eq_getElem hi]; exact (hX _ (List.getElem_mem hi)).2)
      obtain ⟨s, hs⟩ : ∃ s, Hid (St.madeN (actAt X) X.length = s) := ⟨_, Lib.hid rfl⟩
      obtain ⟨ge, hge⟩ : ∃ g, Hid (s0.getE x y = g) := ⟨_, Lib.hid rfl⟩
      have hwi : s.within s0 = true := by rw [← hs.out, hs0.out]; exact hin
      have hri : s0.right = true := by rw [hs0.out]; exact St.right_first
      have hg0 : s0.get x y = Vl.zero := by rw [hs0.out]; exact (St.first_get x y).2
      have hg1 : (ge != 0) = true := by rw [← hge.out, hs0.out]; simpa using (St.first_get x y).1
      clear hin hown
      go_wp2_with fail
      refine (tmade_c0 _ _ _ (by omega) _ s0 hs0 _ (hA2.keep (by repeat' (first | (with_reducible exact Below.refl _ _) | (with_reducible assumption) | (with_reducible refine Below.alloc ?_ ?_ _) | (with_reducible refine Below.setCell ?_ ?_ _) | (with_reducible refine below_setRow ?_ ?_) | (with_reducible refine Below.drew ?_) | (with_reducible refine below_dn ?_ _) | (with_reducible refine Below.trans ?_ (Below.mono (by assumption) ?_)) | go_size)))).mono ?_
      rintro e wM ⟨rfl, hbwM⟩
      obtain ⟨hcwM, hfwM, hzwM⟩ := bcell hbwM
      have hkwM := bblk hbwM
      (try simp only [World.size_alloc, World.size_setCell, World.size_drew, setRow_size] at hcwM hfwM hzwM hkwM)
      rw [hs.out]
      go_wp2_with fail
      refine (tfirst_v s0 hs0 _).mono ?_
      rintro e wF ⟨rfl, hbwF⟩
      obtain ⟨hcwF, hfwF, hzwF⟩ := bcell hbwF
      have hkwF := bblk hbwF
      (try simp only [World.size_alloc, World.size_setCell, World.size_drew, setRow_size] at hcwF hfwF hzwF hkwF)
      go_wp2_with fail
      refine (tget_c _ _ _ _).mono ?_
      rintro e wG ⟨rfl, hbwG⟩
      obtain ⟨hcwG, hfwG, hzwG⟩ := bcell hbwG
      have hkwG := bblk hbwG
      (try simp only [World.size_alloc, World.size_setCell, World.size_drew, setRow_size] at hcwG hfwG hzwG hkwG)
      rw [hg0, hge.out]
      by_cases hy : y ≤ 0
      · have hy1 : decide (y ≤ 0) = true := by simpa using hy
        go_wp2_with fail
        refine wp_region_class (StFstC s wM.heap.size wG.heap.size w) (by kernel_rfl) (by kernel_rfl) ?_ ?_
        · refine ⟨?_, ?_, ?_, ?_, ?_, ?_, ?_, ?_, (by repeat' (first | (with_reducible exact Below.refl _ _) | (with_reducible assumption) | (with_reducible refine Below.alloc ?_ ?_ _) | (with_reducible refine Below.setCell ?_ ?_ _) | (with_reducible refine below_setRow ?_ ?_) | (with_reducible refine Below.drew ?_) | (with_reducible refine below_dn ?_ _) | (with_reducible refine Below.trans ?_ (Below.mono (by assumption) ?_)) | go_size))⟩
          all_goals first | (simp [*, go_sem, ↓IntWalk.iteOmega]; done) | (simp [*, go_sem, ↓IntWalk.iteOmega]; rfl)
        clear hbwM hcwM hfwM hzwM hkwM hbwF hcwF hfwF hzwF hkwF hbwG hcwG hfwG hzwG hkwG
        intro hN
        (try simp only [List.append])
        repeat (first
          | go_big_quiet_skip
          | (go_big_quiet_want
             first
               | ((first | (refine quiet_load_State rfl rfl (fun w' hC => by obtain ⟨k0, k1, k2, k3, k4, k5, k6, k7, k8⟩ := hC; assumption) ?_) | (refine quiet_load_Val rfl rfl (fun w' hC => by obtain ⟨k0, k1, k2, k3, k4, k5, k6, k7, k8⟩ := hC; exact ⟨by assumption, by assumption, by assumption, by assumption, by assumption, by assumption, by assumption⟩) ?_) | (refine quiet_load_W rfl rfl (fun w' hC => by obtain ⟨k0, k1, k2, k3, k4, k5, k6, k7, k8⟩ := hC; assumption) ?_))
                  simp only [Act.put, List.setIfInBounds_toArray, List.set_cons_succ, List.set_cons_zero]
                  go_big_quiet_on)
               | (go_big_quiet_op
                  first
                    | go_big_quiet_on
                    | (apply Exists.intro
                       refine ⟨fun w' hC => ?_, ?_⟩
                       · (first | (go_at_call 16; (with_reducible refine (tfull_c _ _ _ _).mono ?_); rintro e w1 ⟨rfl, hb1⟩) | (go_at_call 18; (with_reducible refine (tfirst_v s0 hs0 _).mono ?_); rintro e w1 ⟨rfl, hb1⟩) | (go_at_call 17; (with_reducible refine (tright_c _ _).mono ?_); rintro e w1 ⟨rfl, hb1⟩) | (go_at_call 25; (with_reducible refine (twithin_c _ _ _).mono ?_); rintro e w1 ⟨rfl, hb1⟩))
                         (try simp only [Vl.eta])
                         exact ⟨rfl, by first | exact hC | exact StFstC_keep _ _ hC hb1⟩
                       go_big_quiet_on))))
        refine wpQuiet_nil ?_
        intro w9 hC
        obtain ⟨k0, k1, k2, k3, k4, k5, k6, k7, k8⟩ := hC
        go_wp2
        go_ret
        exact ⟨rfl, k8⟩
      · have hy1 : decide (y ≤ 0) = false := decide_eq_false hy
        have hfu : s0.full x y = false := by rw [hs0.out]; exact St.first_full (by omega)
        go_wp2_with fail
        refine wp_region_class (StFstC s wM.heap.size wG.heap.size w) (by kernel_rfl) (by kernel_rfl) ?_ ?_
        · refine ⟨?_, ?_, ?_, ?_, ?_, ?_, ?_, ?_, (by repeat' (first | (with_reducible exact Below.refl _ _) | (with_reducible assumption) | (with_reducible refine Below.alloc ?_ ?_ _) | (with_reducible refine Below.setCell ?_ ?_ _) | (with_reducible refine below_setRow ?_ ?_) | (with_reducible refine Below.drew ?_) | (with_reducible refine below_dn ?_ _) | (with_reducible refine Below.trans ?_ (Below.mono (by assumption) ?_)) | go_size))⟩
          all_goals first | (simp [*, go_sem, ↓IntWalk.iteOmega]; done) | (simp [*, go_sem, ↓IntWalk.iteOmega]; rfl)
        clear hbwM hcwM hfwM hzwM hkwM hbwF hcwF hfwF hzwF hkwF hbwG hcwG hfwG hzwG hkwG
        intro hN
        (try simp only [List.append])
        repeat (first
          | go_big_quiet_skip
          | (go_big_quiet_want
             first
               | ((first | (refine quiet_load_State rfl rfl (fun w' hC => by obtain ⟨k0, k1, k2, k3, k4, k5, k6, k7, k8⟩ := hC; assumption) ?_) | (refine quiet_load_Val rfl rfl (fun w' hC => by obtain ⟨k0, k1, k2, k3, k4, k5, k6, k7, k8⟩ := hC; exact ⟨by assumption, by assumption, by assumption, by assumption, by assumption, by assumption, by assumption⟩) ?_) | (refine quiet_load_W rfl rfl (fun w' hC => by obtain ⟨k0, k1, k2, k3, k4, k5, k6, k7, k8⟩ := hC; assumption) ?_))
                  simp only [Act.put, List.setIfInBounds_toArray, List.set_cons_succ, List.set_cons_zero]
                  go_big_quiet_on)
               | (go_big_quiet_op
                  first
                    | go_big_quiet_on
                    | (apply Exists.intro
                       refine ⟨fun w' hC => ?_, ?_⟩
                       · (first | (go_at_call 16; (with_reducible refine (tfull_c _ _ _ _).mono ?_); rintro e w1 ⟨rfl, hb1⟩) | (go_at_call 18; (with_reducible refine (tfirst_v s0 hs0 _).mono ?_); rintro e w1 ⟨rfl, hb1⟩) | (go_at_call 17; (with_reducible refine (tright_c _ _).mono ?_); rintro e w1 ⟨rfl, hb1⟩) | (go_at_call 25; (with_reducible refine (twithin_c _ _ _).mono ?_); rintro e w1 ⟨rfl, hb1⟩))
                         (try simp only [Vl.eta])
                         exact ⟨rfl, by first | exact hC | exact StFstC_keep _ _ hC hb1⟩
                       go_big_quiet_on))))
        refine wpQuiet_nil ?_
        intro w9 hC
        obtain ⟨k0, k1, k2, k3, k4, k5, k6, k7, k8⟩ := hC
        go_wp2
        go_ret
        exact ⟨rfl, k8⟩

end Hk
