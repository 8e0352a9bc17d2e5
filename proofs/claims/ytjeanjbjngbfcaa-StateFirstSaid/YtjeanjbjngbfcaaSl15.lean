/- The statement StateRaw of the Go text: it returns true, and old memory is as it was. No condition but the bounds of the arguments' kinds. -/
import Derived.Test.YtjeanjbjngbfcaaProg
import Derived.Test.YtjeanjbjngbfcaaGp
import Derived.Test.YtjeanjbjngbfcaaVl5
import Derived.Test.YtjeanjbjngbfcaaSt1
import Derived.Test.YtjeanjbjngbfcaaSt2
import Derived.Test.YtjeanjbjngbfcaaSt3
import Derived.Test.YtjeanjbjngbfcaaSt5
import Derived.Test.YtjeanjbjngbfcaaSt8
import Derived.Test.YtjeanjbjngbfcaaSt9
import Derived.Test.YtjeanjbjngbfcaaSt11
import Derived.Test.YtjeanjbjngbfcaaSteq
import Derived.Test.YtjeanjbjngbfcaaRt2
import Derived.Test.YtjeanjbjngbfcaaRt3
import Derived.Test.YtjeanjbjngbfcaaRt4
import Derived.Test.YtjeanjbjngbfcaaRt7
import Derived.Test.YtjeanjbjngbfcaaSl13
import Derived.Test.YtjeanjbjngbfcaaSl14
import Derived.Test.YtjeanjbjngbfcaaGl
namespace Hk
open Go Go.RowKit Go.Proofs
set_option linter.unusedSimpArgs false
set_option linter.unusedVariables false
set_option maxRecDepth 100000
attribute [go_sem] Tn.eta Sp.eta Fa.eta Vl.eta
theorem run_load_I64 (ρ : Operand → Value) (op : Oper) (x : Operand) (b o : Nat) (c0 : Value) (ho : op.op = .load 3 x) (hx : ρ x = .pointer (some ⟨b, o, none⟩)) (w : World) (h0 : w.cell? ⟨b, o, none⟩ = some c0) :
    (execOp ρ op).run Try.prog w = .ok (.value (c0)) w := by
  obtain ⟨dst, op, type, pos, after, guard⟩ := op
  simp only at ho
  subst ho
  go_simp
theorem quiet_load_I64 {op : Oper} {a : Act} {C : World → Prop} {K : Act → Prop} {x : Operand} {b o : Nat} {c0 : Value} (ho : op.op = .load 3 x) (hx : a.eval x = .pointer (some ⟨b, o, none⟩))
    (h : ∀ w, C w → w.cell? ⟨b, o, none⟩ = some c0) (hk : K (a.put op.dst (c0))) : op.quiet Try.prog a C K :=
  quiet_mk (v := c0) (fun w hC => by unfold Oper.quietAt; have h0 := h w hC; rw [run_load_I64 _ op x b o c0 ho hx w h0]; exact ⟨rfl, rfl⟩) hk

def StRawC (s pt st : St) (gv : Vl) (o n : Int) (a b p q g1 g2 x y : Nat) (w : World) (w' : World) : Prop := blk w' a = s.cells ∧ blk w' p = pt.cells ∧ blk w' q = pt.cells ∧ blk w' x = st.cells ∧ blk w' y = st.cells ∧ w'.cell? ⟨b, 1, none⟩ = some (.int .i64 o) ∧ w'.cell? ⟨b, 2, none⟩ = some (.int .i64 n) ∧ w'.cell? ⟨g1, 0, none⟩ = some (.int .u8 gv.k) ∧ w'.cell? ⟨g1, 1, none⟩ = some (.int .u64 (N gv.f.t.v)) ∧ w'.cell? ⟨g1, 2, none⟩ = some (.int .u64 (N gv.f.t.m)) ∧ w'.cell? ⟨g1, 3, none⟩ = some (.int .u64 (N gv.f.s.lo)) ∧ w'.cell? ⟨g1, 4, none⟩ = some (.int .u64 (N gv.f.s.hi)) ∧ w'.cell? ⟨g1, 5, none⟩ = some (.int .i64 gv.i) ∧ w'.cell? ⟨g1, 6, none⟩ = some (.int .i64 gv.off) ∧ w'.cell? ⟨g2, 0, none⟩ = some (.int .u8 gv.k) ∧ w'.cell? ⟨g2, 1, none⟩ = some (.int .u64 (N gv.f.t.v)) ∧ w'.cell? ⟨g2, 2, none⟩ = some (.int .u64 (N gv.f.t.m)) ∧ w'.cell? ⟨g2, 3, none⟩ = some (.int .u64 (N gv.f.s.lo)) ∧ w'.cell? ⟨g2, 4, none⟩ = some (.int .u64 (N gv.f.s.hi)) ∧ w'.cell? ⟨g2, 5, none⟩ = some (.int .i64 gv.i) ∧ w'.cell? ⟨g2, 6, none⟩ = some (.int .i64 gv.off) ∧ Below w.heap.size w w'
theorem StRawC_keep {s pt st : St} {gv : Vl} {o n : Int} {a b p q g1 g2 x y : Nat} {w : World} (w' w1 : World) (h : StRawC s pt st gv o n a b p q g1 g2 x y w w') (hb : Below w'.heap.size w' w1) : StRawC s pt st gv o n a b p q g1 g2 x y w w1 := by
  obtain ⟨k0, k1, k2, k3, k4, k5, k6, k7, k8, k9, k10, k11, k12, k13, k14, k15, k16, k17, k18, k19, k20, k21⟩ := h
  exact ⟨blk_keep hb k0 (by rw [St.cells_size]; decide), blk_keep hb k1 (by rw [St.cells_size]; decide), blk_keep hb k2 (by rw [St.cells_size]; decide), blk_keep hb k3 (by rw [St.cells_size]; decide), blk_keep hb k4 (by rw [St.cells_size]; decide), cell_keep hb k5, cell_keep hb k6, cell_keep hb k7, cell_keep hb k8, cell_keep hb k9, cell_keep hb k10, cell_keep hb k11, cell_keep hb k12, cell_keep hb k13, cell_keep hb k14, cell_keep hb k15, cell_keep hb k16, cell_keep hb k17, cell_keep hb k18, cell_keep hb k19, cell_keep hb k20, below_next k21 hb⟩

theorem tset_c' (s : St) (i : Int) (k : Int) (a b c d : BitVec 64) (m off : Int) (w : World) : Calls Try.prog 12 #[.agg (St.cells s), .int .i64 i, .agg #[.int .u8 k, .int .u64 (N a), .int .u64 (N b), .int .u64 (N c), .int .u64 (N d), .int .i64 m, .int .i64 off]] w fun e w' => e = .returned (.tuple #[.agg (St.cells (s.set i (⟨k, ⟨⟨a, b⟩, ⟨c, d⟩⟩, m, off⟩ : Vl))), .int .i64 (if s.setOk i (⟨k, ⟨⟨a, b⟩, ⟨c, d⟩⟩, m, off⟩ : Vl) then 0 else 1)]) ∧ Below w.heap.size w w' := by
  exact tset_c s i (⟨k, ⟨⟨a, b⟩, ⟨c, d⟩⟩, m, off⟩ : Vl) w

theorem rtput_c' (s : St) (o n : Int) (k : Int) (a b c d : BitVec 64) (m off : Int) (w : World) : Calls Try.prog 20 #[.agg (St.cells s), .int .i64 o, .int .i64 n, .agg #[.int .u8 k, .int .u64 (N a), .int .u64 (N b), .int .u64 (N c), .int .u64 (N d), .int .i64 m, .int .i64 off]] w fun e w' => e = .returned (.tuple #[.agg (St.cells (s.put o n (⟨k, ⟨⟨a, b⟩, ⟨c, d⟩⟩, m, off⟩ : Vl))), .int .i64 (s.putE o n (⟨k, ⟨⟨a, b⟩, ⟨c, d⟩⟩, m, off⟩ : Vl))]) ∧ Below w.heap.size w w' := by
  exact rtput_c s o n (⟨k, ⟨⟨a, b⟩, ⟨c, d⟩⟩, m, off⟩ : Vl) w

theorem rtset_c' (s : St) (i : Int) (k : Int) (a b c d : BitVec 64) (m off : Int) (w : World) : Calls Try.prog 21 #[.agg (St.cells s), .int .i64 i, .agg #[.int .u8 k, .int .u64 (N a), .int .u64 (N b), .int .u64 (N c), .int .u64 (N d), .int .i64 m, .int .i64 off]] w fun e w' => e = .returned (.tuple #[.agg (St.cells (s.set i (⟨k, ⟨⟨a, b⟩, ⟨c, d⟩⟩, m, off⟩ : Vl))), .int .i64 (if s.setOk i (⟨k, ⟨⟨a, b⟩, ⟨c, d⟩⟩, m, off⟩ : Vl) then 0 else 1)]) ∧ Below w.heap.size w w' := by
  exact rtset_c s i (⟨k, ⟨⟨a, b⟩, ⟨c, d⟩⟩, m, off⟩ : Vl) w

set_option maxHeartbeats 8000000 in
theorem stateRaw_walk (s : St) (ak : Int) (_ : 0 ≤ ak ∧ ak ≤ 255) (o : Int) (_ : -9223372036854775808 ≤ o ∧ o ≤ 9223372036854775807) (n : Int) (_ : -9223372036854775808 ≤ n ∧ n ≤ 9223372036854775807) (v : Vl) (w : World) : Calls Try.prog 7 #[.agg (St.cells s), .agg #[.int .u8 ak, .int .i64 o, .int .i64 n, .int .u8 v.k, .int .u64 (N v.f.t.v), .int .u64 (N v.f.t.m), .int .u64 (N v.f.s.lo), .int .u64 (N v.f.s.hi), .int .i64 v.i, .int .i64 v.off]] w fun e w' => e = .returned (.bool true) ∧ Below w.heap.size w w' := by
  obtain ⟨pt, hpt⟩ : ∃ x, Hid (s.put o n v = x) := ⟨_, Lib.hid rfl⟩
  obtain ⟨st, hst⟩ : ∃ x, Hid (s.set o v = x) := ⟨_, Lib.hid rfl⟩
  obtain ⟨gv, hgv⟩ : ∃ x, Hid (s.get o n = x) := ⟨_, Lib.hid rfl⟩
  obtain ⟨se, hse⟩ : ∃ x, Hid ((if s.setOk o v = true then (0 : Int) else 1) = x) := ⟨_, Lib.hid rfl⟩
  go_enter Try.func7, Try.ntmps7
  go_wp2_with fail
  refine (tput_c' _ _ _ _ _ _ _ _ _ _ _).mono ?_
  rintro e wP ⟨rfl, hbwP⟩
  obtain ⟨hcwP, hfwP, hzwP⟩ := bcell hbwP
  have hkwP := bblk hbwP
  (try simp only [World.size_alloc, World.size_setCell, World.size_drew, setRow_size] at hcwP hfwP hzwP hkwP)
  (try simp only [Vl.eta, Tn.eta, Sp.eta, Fa.eta])
  rw [hpt.out]
  go_wp2_with fail
  refine (rtput_c' _ _ _ _ _ _ _ _ _ _ _).mono ?_
  rintro e wQ ⟨rfl, hbwQ⟩
  obtain ⟨hcwQ, hfwQ, hzwQ⟩ := bcell hbwQ
  have hkwQ := bblk hbwQ
  (try simp only [World.size_alloc, World.size_setCell, World.size_drew, setRow_size] at hcwQ hfwQ hzwQ hkwQ)
  (try simp only [Vl.eta, Tn.eta, Sp.eta, Fa.eta])
  rw [hpt.out]
  go_wp2_with fail
  refine (tget_c _ _ _ _).mono ?_
  rintro e wG ⟨rfl, hbwG⟩
  obtain ⟨hcwG, hfwG, hzwG⟩ := bcell hbwG
  have hkwG := bblk hbwG
  (try simp only [World.size_alloc, World.size_setCell, World.size_drew, setRow_size] at hcwG hfwG hzwG hkwG)
  (try simp only [Vl.eta, Tn.eta, Sp.eta, Fa.eta])
  rw [hgv.out]
  go_wp2_with fail
  refine (rtget_c _ _ _ _).mono ?_
  rintro e wH ⟨rfl, hbwH⟩
  obtain ⟨hcwH, hfwH, hzwH⟩ := bcell hbwH
  have hkwH := bblk hbwH
  (try simp only [World.size_alloc, World.size_setCell, World.size_drew, setRow_size] at hcwH hfwH hzwH hkwH)
  (try simp only [Vl.eta, Tn.eta, Sp.eta, Fa.eta])
  rw [hgv.out]
  go_wp2_with fail
  refine (tset_c' _ _ _ _ _ _ _ _ _ _).mono ?_
  rintro e wS ⟨rfl, hbwS⟩
  obtain ⟨hcwS, hfwS, hzwS⟩ := bcell hbwS
  have hkwS := bblk hbwS
  (try simp only [World.size_alloc, World.size_setCell, World.size_drew, setRow_size] at hcwS hfwS hzwS hkwS)
  (try simp only [Vl.eta, Tn.eta, Sp.eta, Fa.eta])
  rw [hst.out]
  rw [hse.out]
  go_wp2_with fail
  refine (rtset_c' _ _ _ _ _ _ _ _ _ _).mono ?_
  rintro e wT ⟨rfl, hbwT⟩
  obtain ⟨hcwT, hfwT, hzwT⟩ := bcell hbwT
  have hkwT := bblk hbwT
  (try simp only [World.size_alloc, World.size_setCell, World.size_drew, setRow_size] at hcwT hfwT hzwT hkwT)
  (try simp only [Vl.eta, Tn.eta, Sp.eta, Fa.eta])
  rw [hst.out]
  rw [hse.out]
  go_wp2_with fail
  refine wp_region_class (StRawC s pt st gv o n w.heap.size (w.heap.size + 1) wP.heap.size wQ.heap.size wG.heap.size wH.heap.size wS.heap.size wT.heap.size w) (by kernel_rfl) (by kernel_rfl) ?_ ?_
  · refine ⟨?_, ?_, ?_, ?_, ?_, ?_, ?_, ?_, ?_, ?_, ?_, ?_, ?_, ?_, ?_, ?_, ?_, ?_, ?_, ?_, ?_, (by repeat' (first | (with_reducible exact Below.refl _ _) | (with_reducible assumption) | (with_reducible refine Below.alloc ?_ ?_ _) | (with_reducible refine Below.setCell ?_ ?_ _) | (with_reducible refine below_setRow ?_ ?_) | (with_reducible refine Below.drew ?_) | (with_reducible refine below_dn ?_ _) | (with_reducible refine Below.trans ?_ (Below.mono (by assumption) ?_)) | go_size))⟩
    all_goals first | (simp [*, go_sem, ↓IntWalk.iteOmega]; done)
  clear hbwP hcwP hfwP hzwP hkwP hbwQ hcwQ hfwQ hzwQ hkwQ hbwG hcwG hfwG hzwG hkwG hbwH hcwH hfwH hzwH hkwH hbwS hcwS hfwS hzwS hkwS hbwT hcwT hfwT hzwT hkwT
  intro hN
  (try simp only [List.append])
  repeat (first
    | go_big_quiet_skip
    | (go_big_quiet_want
       first
         | ((first | (refine quiet_load_State rfl rfl (fun w' hC => by obtain ⟨k0, k1, k2, k3, k4, k5, k6, k7, k8, k9, k10, k11, k12, k13, k14, k15, k16, k17, k18, k19, k20, k21⟩ := hC; assumption) ?_) | (refine quiet_load_Val rfl rfl (fun w' hC => by obtain ⟨k0, k1, k2, k3, k4, k5, k6, k7, k8, k9, k10, k11, k12, k13, k14, k15, k16, k17, k18, k19, k20, k21⟩ := hC; exact ⟨by assumption, by assumption, by assumption, by assumption, by assumption, by assumption, by assumption⟩) ?_) | (refine quiet_load_I64 rfl rfl (fun w' hC => by obtain ⟨k0, k1, k2, k3, k4, k5, k6, k7, k8, k9, k10, k11, k12, k13, k14, k15, k16, k17, k18, k19, k20, k21⟩ := hC; assumption) ?_) | (refine quiet_load_W rfl rfl (fun w' hC => by obtain ⟨k0, k1, k2, k3, k4, k5, k6, k7, k8, k9, k10, k11, k12, k13, k14, k15, k16, k17, k18, k19, k20, k21⟩ := hC; assumption) ?_))
            simp only [Act.put, List.setIfInBounds_toArray, List.set_cons_succ, List.set_cons_zero]
            go_big_quiet_on)
         | (go_big_quiet_op
            first
              | go_big_quiet_on
              | (apply Exists.intro
                 refine ⟨fun w' hC => ?_, ?_⟩
                 · (first | (go_at_call 10; (with_reducible refine (tshown_c _).mono ?_); rintro e w1 ⟨rfl, hb1⟩) | (go_at_call 16; (with_reducible refine (tfull_c _ _ _ _).mono ?_); rintro e w1 ⟨rfl, hb1⟩) | (go_at_call 23; (with_reducible refine (rtfull_c _ _ _ _).mono ?_); rintro e w1 ⟨rfl, hb1⟩))
                   (try simp only [Vl.eta])
                   exact ⟨rfl, by first | exact hC | exact StRawC_keep _ _ hC hb1⟩
                 go_big_quiet_on))))
  refine wpQuiet_nil ?_
  intro w9 hC
  obtain ⟨k0, k1, k2, k3, k4, k5, k6, k7, k8, k9, k10, k11, k12, k13, k14, k15, k16, k17, k18, k19, k20, k21⟩ := hC
  go_wp2
  go_ret
  exact ⟨rfl, k21⟩

end Hk
