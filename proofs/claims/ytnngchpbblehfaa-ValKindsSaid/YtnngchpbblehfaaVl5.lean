/- The statements' own functions on what is known of a register: the document's examples stand; old memory is as it was. No condition. -/
import Derived.Test.YtnngchpbblehfaaProg
import Derived.Test.YtnngchpbblehfaaGp
import Derived.Test.YtnngchpbblehfaaVl
import Derived.Test.YtnngchpbblehfaaVl1
import Derived.Test.YtnngchpbblehfaaVl2
import Derived.Test.YtnngchpbblehfaaVl3
import Derived.Test.YtnngchpbblehfaaVl4
import Derived.Test.YtnngchpbblehfaaGl
namespace Hk
open Go Go.RowKit Go.Proofs
set_option linter.unusedSimpArgs false
set_option linter.unusedVariables false
set_option maxRecDepth 100000
attribute [go_sem] Tn.eta Sp.eta Fa.eta Vl.eta
theorem run_load_Val (ρ : Operand → Value) (op : Oper) (x : Operand) (b o : Nat) (c0 c1 c2 c3 c4 c5 c6 : Value) (ho : op.op = .load 30 x) (hx : ρ x = .pointer (some ⟨b, o, none⟩)) (w : World) (h0 : w.cell? ⟨b, o, none⟩ = some c0) (h1 : w.cell? ⟨b, o + 1, none⟩ = some c1) (h2 : w.cell? ⟨b, o + 2, none⟩ = some c2) (h3 : w.cell? ⟨b, o + 3, none⟩ = some c3) (h4 : w.cell? ⟨b, o + 4, none⟩ = some c4) (h5 : w.cell? ⟨b, o + 5, none⟩ = some c5) (h6 : w.cell? ⟨b, o + 6, none⟩ = some c6) :
    (execOp ρ op).run Try.prog w = .ok (.value (.agg #[c0, c1, c2, c3, c4, c5, c6])) w := by
  obtain ⟨dst, op, type, pos, after, guard⟩ := op
  simp only at ho
  subst ho
  go_simp
theorem quiet_load_Val {op : Oper} {a : Act} {C : World → Prop} {K : Act → Prop} {x : Operand} {b o : Nat} {c0 c1 c2 c3 c4 c5 c6 : Value} (ho : op.op = .load 30 x) (hx : a.eval x = .pointer (some ⟨b, o, none⟩))
    (h : ∀ w, C w → w.cell? ⟨b, o, none⟩ = some c0 ∧ w.cell? ⟨b, o + 1, none⟩ = some c1 ∧ w.cell? ⟨b, o + 2, none⟩ = some c2 ∧ w.cell? ⟨b, o + 3, none⟩ = some c3 ∧ w.cell? ⟨b, o + 4, none⟩ = some c4 ∧ w.cell? ⟨b, o + 5, none⟩ = some c5 ∧ w.cell? ⟨b, o + 6, none⟩ = some c6) (hk : K (a.put op.dst (.agg #[c0, c1, c2, c3, c4, c5, c6]))) : op.quiet Try.prog a C K :=
  quiet_mk (v := .agg #[c0, c1, c2, c3, c4, c5, c6]) (fun w hC => by unfold Oper.quietAt; obtain ⟨h0, h1, h2, h3, h4, h5, h6⟩ := h w hC; rw [run_load_Val _ op x b o c0 c1 c2 c3 c4 c5 c6 ho hx w h0 h1 h2 h3 h4 h5 h6]; exact ⟨rfl, rfl⟩) hk

theorem vrof_c (n : BitVec 64) (w : World) : Calls Try.prog 39 #[.int .u64 (N n)] w fun e w' => e = .returned (.agg #[.int .u64 (N (Fa.of n).t.v), .int .u64 (N (Fa.of n).t.m), .int .u64 (N (Fa.of n).s.lo), .int .u64 (N (Fa.of n).s.hi)]) ∧ Below w.heap.size w w' := by
  go_enter Try.func39, Try.ntmps39
  go_wp2
  refine bodyPost_ret ?_ rfl ⟨rfl, (by repeat' (first | (with_reducible exact Below.refl _ _) | (with_reducible assumption) | (with_reducible refine Below.alloc ?_ ?_ _) | (with_reducible refine Below.setCell ?_ ?_ _) | (with_reducible refine Below.drew ?_) | (with_reducible refine below_dn ?_ _) | (with_reducible refine Below.trans ?_ (Below.mono (by assumption) ?_)) | go_size))⟩
  simp only [results, Try.results39]; simp [*, go_sem, ↓IntWalk.iteOmega, Fa.of, Tn.of]; try (first | rfl | exact ⟨rfl, rfl⟩)

theorem mul32 (x : BitVec 64) : x * 4294967296#64 = x <<< 32 := by
  apply BitVec.eq_of_toNat_eq
  rw [BitVec.toNat_mul, BitVec.toNat_shiftLeft, Nat.shiftLeft_eq]
  rfl

theorem r8at_c (a off : Int) (w : World) : Calls Try.prog 27 #[.int .i64 a, .int .i64 off] w fun e w' => e = .returned (.int .u64 (N (Vl.at_ a off))) ∧ Below w.heap.size w w' := by
  go_enter Try.func27, Try.ntmps27
  go_wp2
  go_ret
  exact ⟨by simp [Vl.at_, mul32], (by repeat' (first | (with_reducible exact Below.refl _ _) | (with_reducible assumption) | (with_reducible refine Below.alloc ?_ ?_ _) | (with_reducible refine Below.setCell ?_ ?_ _) | (with_reducible refine Below.drew ?_) | (with_reducible refine below_dn ?_ _) | (with_reducible refine Below.trans ?_ (Below.mono (by assumption) ?_)) | go_size))⟩

theorem vlnum_c (n : BitVec 64) (w : World) : Calls Try.prog 26 #[.int .u64 (N n)] w fun e w' => e = .returned (.agg #[.int .u8 1, .int .u64 (N n), .int .u64 (N 0#64), .int .u64 (N n), .int .u64 (N n), .int .i64 0, .int .i64 0]) ∧ Below w.heap.size w w' := by
  go_enter Try.func26, Try.ntmps26
  go_wp2_with (first | (go_at_call 39; (with_reducible refine (vrof_c _ _).mono ?_); rintro e w1 ⟨rfl, hb1⟩; obtain ⟨hc1, hf1, hz1⟩ := bcell hb1; (try simp only [World.size_alloc, World.size_setCell, World.size_drew] at hc1 hf1 hz1)))
  refine bodyPost_ret ?_ rfl ⟨rfl, (by repeat' (first | (with_reducible exact Below.refl _ _) | (with_reducible assumption) | (with_reducible refine Below.alloc ?_ ?_ _) | (with_reducible refine Below.setCell ?_ ?_ _) | (with_reducible refine Below.drew ?_) | (with_reducible refine below_dn ?_ _) | (with_reducible refine Below.trans ?_ (Below.mono (by assumption) ?_)) | go_size))⟩
  simp only [results, Try.results26]; simp [*, go_sem, ↓IntWalk.iteOmega, Fa.of, Tn.of]; try (first | rfl | exact ⟨rfl, rfl⟩)

def VShC (v j : Vl) (w wM wJ : World) (w' : World) : Prop := w'.cell? ⟨wM.heap.size, 0, none⟩ = some (.int .u8 v.k) ∧ w'.cell? ⟨wM.heap.size, 1, none⟩ = some (.int .u64 (N v.f.t.v)) ∧ w'.cell? ⟨wM.heap.size, 2, none⟩ = some (.int .u64 (N v.f.t.m)) ∧ w'.cell? ⟨wM.heap.size, 3, none⟩ = some (.int .u64 (N v.f.s.lo)) ∧ w'.cell? ⟨wM.heap.size, 4, none⟩ = some (.int .u64 (N v.f.s.hi)) ∧ w'.cell? ⟨wM.heap.size, 5, none⟩ = some (.int .i64 v.i) ∧ w'.cell? ⟨wM.heap.size, 6, none⟩ = some (.int .i64 v.off) ∧ w'.cell? ⟨wJ.heap.size, 0, none⟩ = some (.int .u8 j.k) ∧ w'.cell? ⟨wJ.heap.size, 1, none⟩ = some (.int .u64 (N j.f.t.v)) ∧ w'.cell? ⟨wJ.heap.size, 2, none⟩ = some (.int .u64 (N j.f.t.m)) ∧ w'.cell? ⟨wJ.heap.size, 3, none⟩ = some (.int .u64 (N j.f.s.lo)) ∧ w'.cell? ⟨wJ.heap.size, 4, none⟩ = some (.int .u64 (N j.f.s.hi)) ∧ w'.cell? ⟨wJ.heap.size, 5, none⟩ = some (.int .i64 j.i) ∧ w'.cell? ⟨wJ.heap.size, 6, none⟩ = some (.int .i64 j.off) ∧ Below w.heap.size w w'
theorem VShC_keep {v j : Vl} {w wM wJ : World} (w' w1 : World) (h : VShC v j w wM wJ w') (hb : Below w'.heap.size w' w1) : VShC v j w wM wJ w1 := by
  obtain ⟨k0, k1, k2, k3, k4, k5, k6, k7, k8, k9, k10, k11, k12, k13, k14⟩ := h
  exact ⟨cell_keep hb k0, cell_keep hb k1, cell_keep hb k2, cell_keep hb k3, cell_keep hb k4, cell_keep hb k5, cell_keep hb k6, cell_keep hb k7, cell_keep hb k8, cell_keep hb k9, cell_keep hb k10, cell_keep hb k11, cell_keep hb k12, cell_keep hb k13, below_next k14 hb⟩

set_option maxHeartbeats 2000000 in
theorem vshown_c  (w : World) : Calls Try.prog 11 #[] w fun e w' => e = .returned (.bool true) ∧ Below w.heap.size w w' := by
  have e1 : Vl.move ⟨3, ⟨⟨0#64, 0#64⟩, ⟨0#64, 0#64⟩⟩, 0, 512⟩ 18446744073709551608#64 = (⟨3, ⟨⟨0#64, 0#64⟩, ⟨0#64, 0#64⟩⟩, 0, 504⟩ : Vl) := by decide +kernel
  have e2 : Vl.moveOk ⟨3, ⟨⟨0#64, 0#64⟩, ⟨0#64, 0#64⟩⟩, 0, 512⟩ 18446744073709551608#64 = true := by decide +kernel
  have e3 : Vl.join ⟨1, ⟨⟨4#64, 0#64⟩, ⟨4#64, 4#64⟩⟩, 0, 0⟩ ⟨1, ⟨⟨6#64, 0#64⟩, ⟨6#64, 6#64⟩⟩, 0, 0⟩ = (⟨1, ⟨⟨4#64, 2#64⟩, ⟨4#64, 6#64⟩⟩, 0, 0⟩ : Vl) := by decide +kernel
  have e4 : Vl.is_ (⟨3, ⟨⟨0#64, 0#64⟩, ⟨0#64, 0#64⟩⟩, 0, 504⟩ : Vl) (Vl.at_ 2 504) true = true := by decide +kernel
  go_enter Try.func11, Try.ntmps11
  go_wp2_with fail
  refine (vmove_c' _ _ _ _ _ _ _ _ _).mono ?_
  rintro e wM ⟨rfl, hbwM⟩
  obtain ⟨hcwM, hfwM, hzwM⟩ := bcell hbwM
  (try simp only [World.size_alloc, World.size_setCell, World.size_drew] at hcwM hfwM hzwM)
  simp only [e1, e2]
  skip
  go_wp2_with (first | (go_at_call 26; (with_reducible refine (vlnum_c _ _).mono ?_); rintro e w1 ⟨rfl, hb1⟩; obtain ⟨hc1, hf1, hz1⟩ := bcell hb1; (try simp only [World.size_alloc, World.size_setCell, World.size_drew] at hc1 hf1 hz1)))
  refine (vjoin_c' _ _ _ _ _ _ _ _ _ _ _ _ _ _ _).mono ?_
  rintro e wJ ⟨rfl, hbwJ⟩
  obtain ⟨hcwJ, hfwJ, hzwJ⟩ := bcell hbwJ
  (try simp only [World.size_alloc, World.size_setCell, World.size_drew] at hcwJ hfwJ hzwJ)
  simp only [e3]
  go_wp2_with fail
  refine wp_region_class (VShC (⟨3, ⟨⟨0#64, 0#64⟩, ⟨0#64, 0#64⟩⟩, 0, 504⟩ : Vl) (⟨1, ⟨⟨4#64, 2#64⟩, ⟨4#64, 6#64⟩⟩, 0, 0⟩ : Vl) w wM wJ) (by kernel_rfl) (by kernel_rfl) ?_ ?_
  · refine ⟨?_, ?_, ?_, ?_, ?_, ?_, ?_, ?_, ?_, ?_, ?_, ?_, ?_, ?_, (by repeat' (first | (with_reducible exact Below.refl _ _) | (with_reducible assumption) | (with_reducible refine Below.alloc ?_ ?_ _) | (with_reducible refine Below.setCell ?_ ?_ _) | (with_reducible refine Below.drew ?_) | (with_reducible refine below_dn ?_ _) | (with_reducible refine Below.trans ?_ (Below.mono (by assumption) ?_)) | go_size))⟩
    all_goals first | (intro i; simp [*, go_sem, ↓IntWalk.iteOmega]; done) | (simp [*, go_sem, ↓IntWalk.iteOmega]; done)
  clear hbwM hcwM hfwM hzwM hbwJ hcwJ hfwJ hzwJ
  intro hN
  (try simp only [List.append])
  repeat (first
    | go_big_quiet_skip
    | (go_big_quiet_want
       first
         | (refine quiet_load_Val rfl rfl (fun w' hC => by obtain ⟨k0, k1, k2, k3, k4, k5, k6, k7, k8, k9, k10, k11, k12, k13, k14⟩ := hC; first | exact ⟨k0, k1, k2, k3, k4, k5, k6⟩ | exact ⟨k1, k2, k3, k4, k5, k6, k7⟩ | exact ⟨k2, k3, k4, k5, k6, k7, k8⟩ | exact ⟨k3, k4, k5, k6, k7, k8, k9⟩ | exact ⟨k4, k5, k6, k7, k8, k9, k10⟩ | exact ⟨k5, k6, k7, k8, k9, k10, k11⟩ | exact ⟨k6, k7, k8, k9, k10, k11, k12⟩ | exact ⟨k7, k8, k9, k10, k11, k12, k13⟩) ?_
            simp only [Act.put, List.setIfInBounds_toArray, List.set_cons_succ, List.set_cons_zero]
            go_big_quiet_on)
         | (refine quiet_load_Tn rfl rfl (fun w' hC => by obtain ⟨k0, k1, k2, k3, k4, k5, k6, k7, k8, k9, k10, k11, k12, k13, k14⟩ := hC; first | exact ⟨k0, k1⟩ | exact ⟨k1, k2⟩ | exact ⟨k2, k3⟩ | exact ⟨k3, k4⟩ | exact ⟨k4, k5⟩ | exact ⟨k5, k6⟩ | exact ⟨k6, k7⟩ | exact ⟨k7, k8⟩ | exact ⟨k8, k9⟩ | exact ⟨k9, k10⟩ | exact ⟨k10, k11⟩ | exact ⟨k11, k12⟩ | exact ⟨k12, k13⟩) ?_
            simp only [Act.put, List.setIfInBounds_toArray, List.set_cons_succ, List.set_cons_zero]
            go_big_quiet_on)
         | (refine quiet_load_W rfl rfl (fun w' hC => by obtain ⟨k0, k1, k2, k3, k4, k5, k6, k7, k8, k9, k10, k11, k12, k13, k14⟩ := hC; first | exact k0 | exact k1 | exact k2 | exact k3 | exact k4 | exact k5 | exact k6 | exact k7 | exact k8 | exact k9 | exact k10 | exact k11 | exact k12 | exact k13) ?_
            simp only [Act.put, List.setIfInBounds_toArray, List.set_cons_succ, List.set_cons_zero]
            go_big_quiet_on)
         | (go_big_quiet_op
            first
              | go_big_quiet_on
              | (apply Exists.intro
                 refine ⟨fun w' hC => ?_, ?_⟩
                 · (first | (go_at_call 27; (with_reducible refine (r8at_c _ _ _).mono ?_); rintro e w1 ⟨rfl, hb1⟩) | (go_at_call 18; (with_reducible refine (vis_c' _ _ _ _ _ _ _ _ _ _).mono ?_); rintro e w1 ⟨rfl, hb1⟩))
                   (try simp only [e4])
                   exact ⟨rfl, by first | exact hC | exact VShC_keep _ _ hC hb1⟩
                 go_big_quiet_on))))
  refine wpQuiet_nil ?_
  intro w9 hC
  obtain ⟨k0, k1, k2, k3, k4, k5, k6, k7, k8, k9, k10, k11, k12, k13, k14⟩ := hC
  have z0 := cell_lt k0
  have z7 := cell_lt k7
  go_wp2
  go_ret
  exact ⟨rfl, k14⟩

end Hk
