/- The statement StateTells of the Go text: it returns true, and old memory is as it was. No condition. -/
import Derived.Test.YtjeanjbjngbfcaaProg
import Derived.Test.YtjeanjbjngbfcaaGp
import Derived.Test.YtjeanjbjngbfcaaGv
import Derived.Test.YtjeanjbjngbfcaaSt1
import Derived.Test.YtjeanjbjngbfcaaSt2
import Derived.Test.YtjeanjbjngbfcaaSt3
import Derived.Test.YtjeanjbjngbfcaaSt12
import Derived.Test.YtjeanjbjngbfcaaSteq
import Derived.Test.YtjeanjbjngbfcaaRt1
import Derived.Test.YtjeanjbjngbfcaaRt5
import Derived.Test.YtjeanjbjngbfcaaSl13
import Derived.Test.YtjeanjbjngbfcaaGl
namespace Hk
open Go Go.RowKit Go.Proofs
set_option linter.unusedSimpArgs false
set_option linter.unusedVariables false
set_option maxRecDepth 100000
attribute [go_sem] Tn.eta Sp.eta Fa.eta Vl.eta
theorem run_load_State (ρ : Operand → Value) (op : Oper) (x : Operand) (b : Nat) (s : St) (ho : op.op = .load 38 x) (hx : ρ x = .pointer (some ⟨b, 0, none⟩)) (w : World) (h : blk w b = s.cells) :
    (execOp ρ op).run Try.prog w = .ok (.value (.agg s.cells)) w := by
  obtain ⟨dst, op, type, pos, after, guard⟩ := op
  simp only at ho
  subst ho
  have hs : (blk w b).size = 589 := by rw [h, s.cells_size]
  have e := bl_st_run w b hs
  rw [h] at e
  simp only [execOp, hx, Sem.run_bind, ldS_at, e, Result.andThen, Sem.run_pure]
theorem quiet_load_State {op : Oper} {a : Act} {C : World → Prop} {K : Act → Prop} {x : Operand} {b : Nat} {s : St} (ho : op.op = .load 38 x) (hx : a.eval x = .pointer (some ⟨b, 0, none⟩))
    (h : ∀ w, C w → blk w b = s.cells) (hk : K (a.put op.dst (.agg s.cells))) : op.quiet Try.prog a C K :=
  quiet_mk (v := .agg s.cells) (fun w hC => by unfold Oper.quietAt; rw [run_load_State _ op x b s ho hx w (h w hC)]; exact ⟨rfl, rfl⟩) hk

def StTellsC (a b : St) (w : World) (w' : World) : Prop := blk w' w.heap.size = a.cells ∧ blk w' (w.heap.size + 1) = b.cells ∧ Below w.heap.size w w'
theorem StTellsC_keep {a b : St} {w : World} (w' w1 : World) (h : StTellsC a b w w') (hb : Below w'.heap.size w' w1) : StTellsC a b w w1 := by
  obtain ⟨k0, k1, k2⟩ := h
  exact ⟨blk_keep hb k0 (by rw [St.cells_size]; decide), blk_keep hb k1 (by rw [St.cells_size]; decide), below_next k2 hb⟩

theorem tfirst_v (s0 : St) (h : Hid (s0 = St.first)) (w : World) : Calls Try.prog 18 #[] w fun e w' => e = .returned (.agg (St.cells s0)) ∧ Below w.heap.size w w' := by
  have e := h.out
  subst e
  exact tfirst_c w

theorem rtfirst_v (s0 : St) (h : Hid (s0 = St.first)) (w : World) : Calls Try.prog 19 #[] w fun e w' => e = .returned (.agg (St.cells s0)) ∧ Below w.heap.size w w' := by
  have e := h.out
  subst e
  exact rtfirst_c w

theorem St.within_self (a : St) : a.within a = a.right := by
  cases h : a.right
  · unfold St.within; rw [h]; rfl
  · have h1 : a.inR a 11 = true := St.all_iff.2 fun k hk => by rw [Vl.within_self]; exact St.right_r h hk
    have h2 : a.inS a 64 = true := St.all_iff.2 fun k hk => by
      have h3 := St.right_s h hk
      unfold Sl.ok at h3
      rw [Bool.and_eq_true] at h3
      unfold St.slotIn
      split
      · rw [beq_iff_eq]; exact BitVec.and_not_self _
      · rename_i h4
        rw [Vl.within_self, h3.1]
        simp [h4]
    unfold St.within
    rw [h, h1, h2]; rfl

set_option maxHeartbeats 4000000 in
theorem stateTells_walk (a b : St) (w : World) : Calls Try.prog 8 #[.agg (St.cells a), .agg (St.cells b)] w fun e w' => e = .returned (.bool true) ∧ Below w.heap.size w w' := by
  have hself := St.within_self a
  obtain ⟨s0, hs0⟩ : ∃ s0 : St, Hid (s0 = St.first) := ⟨_, Lib.hid rfl⟩
  go_enter Try.func8, Try.ntmps8
  go_wp2_with fail
  refine wp_region_class (StTellsC a b w) (by kernel_rfl) (by kernel_rfl) ?_ ?_
  · refine ⟨?_, ?_, (by repeat' (first | (with_reducible exact Below.refl _ _) | (with_reducible assumption) | (with_reducible refine Below.alloc ?_ ?_ _) | (with_reducible refine Below.setCell ?_ ?_ _) | (with_reducible refine Below.drew ?_) | (with_reducible refine below_dn ?_ _) | (with_reducible refine Below.trans ?_ (Below.mono (by assumption) ?_)) | go_size))⟩
    all_goals first | (intro i; simp [*, go_sem, ↓IntWalk.iteOmega]; done) | (simp [*, go_sem, ↓IntWalk.iteOmega]; done)
  intro hN
  (try simp only [List.append])
  repeat (first
    | go_big_quiet_skip
    | (go_big_quiet_want
       first
         | ((first | (refine quiet_load_State rfl rfl (fun w' hC => by obtain ⟨k0, k1, k2⟩ := hC; assumption) ?_))
            simp only [Act.put, List.setIfInBounds_toArray, List.set_cons_succ, List.set_cons_zero]
            go_big_quiet_on)
         | (go_big_quiet_op
            first
              | go_big_quiet_on
              | (apply Exists.intro
                 refine ⟨fun w' hC => ?_, ?_⟩
                 · (first | (go_at_call 10; (with_reducible refine (tshown_c _).mono ?_); rintro e w1 ⟨rfl, hb1⟩) | (go_at_call 18; (with_reducible refine (tfirst_v s0 hs0 _).mono ?_); rintro e w1 ⟨rfl, hb1⟩) | (go_at_call 19; (with_reducible refine (rtfirst_v s0 hs0 _).mono ?_); rintro e w1 ⟨rfl, hb1⟩) | (go_at_call 17; (with_reducible refine (tright_c _ _).mono ?_); rintro e w1 ⟨rfl, hb1⟩) | (go_at_call 24; (with_reducible refine (rtright_c _ _).mono ?_); rintro e w1 ⟨rfl, hb1⟩) | (go_at_call 25; (with_reducible refine (twithin_c _ _ _).mono ?_); rintro e w1 ⟨rfl, hb1⟩) | (go_at_call 26; (with_reducible refine (rtwithin_c _ _ _).mono ?_); rintro e w1 ⟨rfl, hb1⟩))
                   (try simp only [hself])
                   exact ⟨rfl, by first | exact hC | exact StTellsC_keep _ _ hC hb1⟩
                 go_big_quiet_on))))
  refine wpQuiet_nil ?_
  intro w9 hC
  obtain ⟨k0, k1, k2⟩ := hC
  go_wp2
  go_ret
  exact ⟨rfl, k2⟩

end Hk
