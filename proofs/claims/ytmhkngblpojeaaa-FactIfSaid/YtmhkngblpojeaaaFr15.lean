/- The reference of facts: If (of the same); old memory is as it was. No condition but those in each statement. -/
import Derived.Test.YtmhkngblpojeaaaProg
import Derived.Test.YtmhkngblpojeaaaGp
import Derived.Test.YtmhkngblpojeaaaFaIf
import Derived.Test.YtmhkngblpojeaaaGx
import Derived.Test.YtmhkngblpojeaaaFr13
import Derived.Test.YtmhkngblpojeaaaSr3
import Derived.Test.YtmhkngblpojeaaaGe
import Derived.Test.YtmhkngblpojeaaaFa13
import Derived.Test.YtmhkngblpojeaaaGr
import Derived.Test.YtmhkngblpojeaaaGl
namespace Hk
open Go Go.RowKit Go.Proofs
set_option linter.unusedSimpArgs false
set_option linter.unusedVariables false
set_option maxRecDepth 100000
attribute [go_sem] Tn.eta
attribute [go_sem] Cond.val_some Cond.err_some Cond.val_none Cond.err_none
set_option maxHeartbeats 8000000 in
theorem rfif_e (wd : Bool) (a b : Fa) (oa : Fa.ok a = true) (ob : Fa.ok b = true) (ka kb : Bool) (hka : Hid ((Fa.known a).isSome = ka)) (hkb : Hid ((Fa.known b).isSome = kb)) (hk : (ka && kb) = false) (ha hb : Bool) (hha : Hid (decide (4294967296#64 ≤ a.s.hi) = ha)) (hhb : Hid (decide (4294967296#64 ≤ b.s.hi) = hb)) (hl : (!wd && (ha || hb)) = false) (hm : Tn.meetOk a.t b.t = true) (hT : Cond.turned 16 = some 16) (w : World) : Calls Try.prog 36 #[.int .u8 16, .bool wd, .agg #[.int .u64 (N a.t.v), .int .u64 (N a.t.m), .int .u64 (N a.s.lo), .int .u64 (N a.s.hi)], .agg #[.int .u64 (N b.t.v), .int .u64 (N b.t.m), .int .u64 (N b.s.lo), .int .u64 (N b.s.hi)]] w fun e w' => e = .returned (.tuple #[.agg #[.int .u64 (N (((Fa.if_ 16 wd a b).getD (Fa.zero, Fa.zero)).1).t.v), .int .u64 (N (((Fa.if_ 16 wd a b).getD (Fa.zero, Fa.zero)).1).t.m), .int .u64 (N (((Fa.if_ 16 wd a b).getD (Fa.zero, Fa.zero)).1).s.lo), .int .u64 (N (((Fa.if_ 16 wd a b).getD (Fa.zero, Fa.zero)).1).s.hi)], .agg #[.int .u64 (N (((Fa.if_ 16 wd a b).getD (Fa.zero, Fa.zero)).2).t.v), .int .u64 (N (((Fa.if_ 16 wd a b).getD (Fa.zero, Fa.zero)).2).t.m), .int .u64 (N (((Fa.if_ 16 wd a b).getD (Fa.zero, Fa.zero)).2).s.lo), .int .u64 (N (((Fa.if_ 16 wd a b).getD (Fa.zero, Fa.zero)).2).s.hi)], .bool (Fa.if_ 16 wd a b).isSome]) ∧ Below w.heap.size w w' := by
  obtain ⟨g1, hg1⟩ : ∃ x, Hid ((Sp.if_ (16) a.s b.s).getD ⟨0, 0⟩ = x) := ⟨_, Lib.hid rfl⟩
  obtain ⟨o1, ho1⟩ : ∃ x, Hid ((Sp.if_ (16) a.s b.s).isSome = x) := ⟨_, Lib.hid rfl⟩
  obtain ⟨g2, hg2⟩ : ∃ x, Hid ((Sp.if_ (16) b.s a.s).getD ⟨0, 0⟩ = x) := ⟨_, Lib.hid rfl⟩
  obtain ⟨o2, ho2⟩ : ∃ x, Hid ((Sp.if_ (16) b.s a.s).isSome = x) := ⟨_, Lib.hid rfl⟩
  obtain ⟨t, ht⟩ : ∃ x, Hid (Tn.meet a.t b.t = x) := ⟨_, Lib.hid rfl⟩
  obtain ⟨X, hX⟩ : ∃ X, Hid (Fa.wth ⟨t, a.s⟩ g1 o1 = X) := ⟨_, Lib.hid rfl⟩
  obtain ⟨Y, hY⟩ : ∃ Y, Hid (Fa.wth ⟨t, b.s⟩ g2 o2 = Y) := ⟨_, Lib.hid rfl⟩
  have e1 : ((Sp.if_ (16) a.s b.s).bind fun r => Fa.settle ⟨t, r⟩) = X := by rw [← hX.out, ← hg1.out, ← ho1.out]; exact (Fa.wth_bind (f := ⟨t, a.s⟩)).symm
  have e2 : ((Sp.if_ (16) b.s a.s).bind fun r => Fa.settle ⟨t, r⟩) = Y := by rw [← hY.out, ← hg2.out, ← ho2.out]; exact (Fa.wth_bind (f := ⟨t, b.s⟩)).symm
  have hkn : Fa.known a = none ∨ Fa.known b = none := by
    rcases h1 : Fa.known a with _ | p
    · exact .inl rfl
    · rcases h2 : Fa.known b with _ | q
      · exact .inr rfl
      · have q1 := hka.out; have q2 := hkb.out; rw [h1] at q1; rw [h2] at q2; rw [← q1, ← q2] at hk; cases hk
  have hlo : wd = true ∨ decide (4294967296#64 ≤ Sp.mx a.s.hi b.s.hi) = false := by
    rw [Fa.hi_ref, hha.out, hhb.out]
    cases wd
    · right; simpa using hl
    · exact .inl rfl
  have hE : Fa.if_ (16) wd a b = (X.bind fun x => Y.bind fun y => some (x, y)) := by
    rw [Fa.if_k oa ob hkn, Fa.if_lo hlo, if_pos rfl, hm, if_pos rfl, Fa.ranges_is]
    have e3 : Fa.back (16) ⟨Tn.meet a.t b.t, a.s⟩ ⟨Tn.meet a.t b.t, b.s⟩ = Sp.if_ (16) b.s a.s := by unfold Fa.back; rw [hT]
    rw [e3]
    rw [ht.out]
    simp only [e1, e2]
    clear e1 e2 hX hY
    cases X
    · rfl
    · cases Y <;> rfl
  rw [hE]
  have hTh := Lib.hid hT
  clear hE e1 e2 hkn hlo hT
  go_enter Try.func36, Try.ntmps36
  go_wp2_with fail
  refine (rfright_c' _ _ _ _ _).mono ?_
  rintro e w1 ⟨rfl, hbw1⟩
  obtain ⟨hcw1, hfw1, hzw1⟩ := bcell hbw1
  (try simp only [World.size_alloc, World.size_setCell, World.size_drew] at hcw1 hfw1 hzw1)
  (try simp only [Tn.eta, Sp.eta, Fa.eta, oa, Option.isSome_some, Option.isSome_none, Option.getD_some, Option.getD_none, if_true, Bool.false_eq_true, if_false])
  go_wp2_with fail
  refine (rfright_c' _ _ _ _ _).mono ?_
  rintro e w2 ⟨rfl, hbw2⟩
  obtain ⟨hcw2, hfw2, hzw2⟩ := bcell hbw2
  (try simp only [World.size_alloc, World.size_setCell, World.size_drew] at hcw2 hfw2 hzw2)
  (try simp only [Tn.eta, Sp.eta, Fa.eta, ob, Option.isSome_some, Option.isSome_none, Option.getD_some, Option.getD_none, if_true, Bool.false_eq_true, if_false])
  go_wp2_with fail
  refine (rfknown_c' _ _ _ _ _).mono ?_
  rintro e w3 ⟨rfl, hbw3⟩
  obtain ⟨hcw3, hfw3, hzw3⟩ := bcell hbw3
  (try simp only [World.size_alloc, World.size_setCell, World.size_drew] at hcw3 hfw3 hzw3)
  (try simp only [Tn.eta, Sp.eta, Fa.eta, hka.out, Option.isSome_some, Option.isSome_none, Option.getD_some, Option.getD_none, if_true, Bool.false_eq_true, if_false])
  go_wp2_with fail
  refine (rfknown_c' _ _ _ _ _).mono ?_
  rintro e w4 ⟨rfl, hbw4⟩
  obtain ⟨hcw4, hfw4, hzw4⟩ := bcell hbw4
  (try simp only [World.size_alloc, World.size_setCell, World.size_drew] at hcw4 hfw4 hzw4)
  (try simp only [Tn.eta, Sp.eta, Fa.eta, hkb.out, Option.isSome_some, Option.isSome_none, Option.getD_some, Option.getD_none, if_true, Bool.false_eq_true, if_false])
  go_upto_region 5 with fail
  go_cut [50] (fun s5 wx => s5 = .bool false ∧ w4 = wx)
  case first =>
    cases ka <;> cases kb <;> first | (exact absurd hk (by decide)) | (go_wp2_with fail; go_meet; exact ⟨rfl, rfl⟩)
  case rest =>
    obtain ⟨rfl, rfl⟩ := hcut
    go_upto_region 10 with fail
    go_cut [82] (fun s8 wx => s8 = .bool false ∧ w4 = wx)
    case first =>
      have ha1 := hha.out
      have hb1 := hhb.out
      cases wd <;> cases ha <;> cases hb <;> first | (exact absurd hl (by decide)) | (go_wp2_with fail; go_meet; exact ⟨rfl, rfl⟩)
    case rest =>
      obtain ⟨rfl, rfl⟩ := hcut
      go_wp2_with fail
      refine (r_meet_c' _ _ _ _ _).mono ?_
      rintro e w5 ⟨rfl, hbw5⟩
      obtain ⟨hcw5, hfw5, hzw5⟩ := bcell hbw5
      (try simp only [World.size_alloc, World.size_setCell, World.size_drew] at hcw5 hfw5 hzw5)
      (try simp only [Tn.eta, Sp.eta, Fa.eta, hm, ht.out, Option.isSome_some, Option.isSome_none, Option.getD_some, Option.getD_none, if_true, Bool.false_eq_true, if_false])
      go_wp2_with fail
      refine (rsif_c' _ _ _ _ _ _).mono ?_
      rintro e w6 ⟨rfl, hbw6⟩
      obtain ⟨hcw6, hfw6, hzw6⟩ := bcell hbw6
      (try simp only [World.size_alloc, World.size_setCell, World.size_drew] at hcw6 hfw6 hzw6)
      (try simp only [Tn.eta, Sp.eta, Fa.eta, hg1.out, ho1.out, Option.isSome_some, Option.isSome_none, Option.getD_some, Option.getD_none, if_true, Bool.false_eq_true, if_false])
      have u02 : w6.cell? ⟨w.heap.size, 2, none⟩ = some (.int .u64 (N a.s.lo)) := by simp (maxDischargeDepth := 12) [*, go_sem, ↓IntWalk.iteOmega]
      have u03 : w6.cell? ⟨w.heap.size, 3, none⟩ = some (.int .u64 (N a.s.hi)) := by simp (maxDischargeDepth := 12) [*, go_sem, ↓IntWalk.iteOmega]
      have u12 : w6.cell? ⟨w.heap.size + 1, 2, none⟩ = some (.int .u64 (N b.s.lo)) := by simp (maxDischargeDepth := 12) [*, go_sem, ↓IntWalk.iteOmega]
      have u13 : w6.cell? ⟨w.heap.size + 1, 3, none⟩ = some (.int .u64 (N b.s.hi)) := by simp (maxDischargeDepth := 12) [*, go_sem, ↓IntWalk.iteOmega]
      have u20 : w6.cell? ⟨w.heap.size + 1 + 1, 0, none⟩ = some (.int .u64 (N 0#64)) := by simp (maxDischargeDepth := 12) [*, go_sem, ↓IntWalk.iteOmega]
      have u21 : w6.cell? ⟨w.heap.size + 1 + 1, 1, none⟩ = some (.int .u64 (N 0#64)) := by simp (maxDischargeDepth := 12) [*, go_sem, ↓IntWalk.iteOmega]
      have u22 : w6.cell? ⟨w.heap.size + 1 + 1, 2, none⟩ = some (.int .u64 (N 0#64)) := by simp (maxDischargeDepth := 12) [*, go_sem, ↓IntWalk.iteOmega]
      have u23 : w6.cell? ⟨w.heap.size + 1 + 1, 3, none⟩ = some (.int .u64 (N 0#64)) := by simp (maxDischargeDepth := 12) [*, go_sem, ↓IntWalk.iteOmega]
      have u30 : w6.cell? ⟨w.heap.size + 1 + 1 + 1, 0, none⟩ = some (.int .u64 (N 0#64)) := by simp (maxDischargeDepth := 12) [*, go_sem, ↓IntWalk.iteOmega]
      have u31 : w6.cell? ⟨w.heap.size + 1 + 1 + 1, 1, none⟩ = some (.int .u64 (N 0#64)) := by simp (maxDischargeDepth := 12) [*, go_sem, ↓IntWalk.iteOmega]
      have u32 : w6.cell? ⟨w.heap.size + 1 + 1 + 1, 2, none⟩ = some (.int .u64 (N 0#64)) := by simp (maxDischargeDepth := 12) [*, go_sem, ↓IntWalk.iteOmega]
      have u33 : w6.cell? ⟨w.heap.size + 1 + 1 + 1, 3, none⟩ = some (.int .u64 (N 0#64)) := by simp (maxDischargeDepth := 12) [*, go_sem, ↓IntWalk.iteOmega]
      have u40 : w6.cell? ⟨w4.heap.size, 0, none⟩ = some (.int .u64 (N t.v)) := by simp (maxDischargeDepth := 12) [*, go_sem, ↓IntWalk.iteOmega]
      have u41 : w6.cell? ⟨w4.heap.size, 1, none⟩ = some (.int .u64 (N t.m)) := by simp (maxDischargeDepth := 12) [*, go_sem, ↓IntWalk.iteOmega]
      have u42 : w6.cell? ⟨w4.heap.size, 2, none⟩ = some (.int .u64 (N a.s.lo)) := by simp (maxDischargeDepth := 12) [*, go_sem, ↓IntWalk.iteOmega]
      have u43 : w6.cell? ⟨w4.heap.size, 3, none⟩ = some (.int .u64 (N a.s.hi)) := by simp (maxDischargeDepth := 12) [*, go_sem, ↓IntWalk.iteOmega]
      have u50 : w6.cell? ⟨w4.heap.size + 1, 0, none⟩ = some (.int .u64 (N t.v)) := by simp (maxDischargeDepth := 12) [*, go_sem, ↓IntWalk.iteOmega]
      have u51 : w6.cell? ⟨w4.heap.size + 1, 1, none⟩ = some (.int .u64 (N t.m)) := by simp (maxDischargeDepth := 12) [*, go_sem, ↓IntWalk.iteOmega]
      have u52 : w6.cell? ⟨w4.heap.size + 1, 2, none⟩ = some (.int .u64 (N b.s.lo)) := by simp (maxDischargeDepth := 12) [*, go_sem, ↓IntWalk.iteOmega]
      have u53 : w6.cell? ⟨w4.heap.size + 1, 3, none⟩ = some (.int .u64 (N b.s.hi)) := by simp (maxDischargeDepth := 12) [*, go_sem, ↓IntWalk.iteOmega]
      have f2 : ∀ i, w6.frozen? ⟨w.heap.size + 1 + 1, i, none⟩ = false := by intro i; simp (maxDischargeDepth := 12) [*, go_sem, ↓IntWalk.iteOmega]
      have f3 : ∀ i, w6.frozen? ⟨w.heap.size + 1 + 1 + 1, i, none⟩ = false := by intro i; simp (maxDischargeDepth := 12) [*, go_sem, ↓IntWalk.iteOmega]
      have f4 : ∀ i, w6.frozen? ⟨w4.heap.size, i, none⟩ = false := by intro i; simp (maxDischargeDepth := 12) [*, go_sem, ↓IntWalk.iteOmega]
      have f5 : ∀ i, w6.frozen? ⟨w4.heap.size + 1, i, none⟩ = false := by intro i; simp (maxDischargeDepth := 12) [*, go_sem, ↓IntWalk.iteOmega]
      clear hcw6 hfw6 hcw5 hfw5 hcw4 hfw4 hcw3 hfw3 hcw2 hfw2 hcw1 hfw1
      go_wp2_with fail
      refine (rfwith_c' _ _ _ _ _ _ _ _).mono ?_
      rintro e w7 ⟨rfl, hbw7⟩
      obtain ⟨hcw7, hfw7, hzw7⟩ := bcell hbw7
      (try simp only [World.size_alloc, World.size_setCell, World.size_drew] at hcw7 hfw7 hzw7)
      (try simp only [Tn.eta, Sp.eta, Fa.eta, hX.out, Option.isSome_some, Option.isSome_none, Option.getD_some, Option.getD_none, if_true, Bool.false_eq_true, if_false])
      go_wp2_with fail
      refine (rturned_c _ _).mono ?_
      rintro e wR ⟨rfl, hbwR⟩
      obtain ⟨hcwR, hfwR, hzwR⟩ := bcell hbwR
      (try simp only [World.size_alloc, World.size_setCell, World.size_drew] at hcwR hfwR hzwR)
      (try simp only [Tn.eta, Sp.eta, Fa.eta, hTh.out, Option.isSome_some, Option.isSome_none, Option.getD_some, Option.getD_none, if_true, Bool.false_eq_true, if_false])
      go_wp2_with fail
      refine (rsif_c' _ _ _ _ _ _).mono ?_
      rintro e w8 ⟨rfl, hbw8⟩
      obtain ⟨hcw8, hfw8, hzw8⟩ := bcell hbw8
      (try simp only [World.size_alloc, World.size_setCell, World.size_drew] at hcw8 hfw8 hzw8)
      (try simp only [Tn.eta, Sp.eta, Fa.eta, hg2.out, ho2.out, Option.isSome_some, Option.isSome_none, Option.getD_some, Option.getD_none, if_true, Bool.false_eq_true, if_false])
      go_wp2_with fail
      refine (rfwith_c' _ _ _ _ _ _ _ _).mono ?_
      rintro e w9 ⟨rfl, hbw9⟩
      obtain ⟨hcw9, hfw9, hzw9⟩ := bcell hbw9
      (try simp only [World.size_alloc, World.size_setCell, World.size_drew] at hcw9 hfw9 hzw9)
      (try simp only [Tn.eta, Sp.eta, Fa.eta, hY.out, Option.isSome_some, Option.isSome_none, Option.getD_some, Option.getD_none, if_true, Bool.false_eq_true, if_false])
      rcases X with _ | x
      · (try simp only [Tn.eta, Sp.eta, Fa.eta, Fa.zero, Option.isSome_some, Option.isSome_none, Option.getD_some, Option.getD_none, if_true, Bool.false_eq_true, if_false])
        go_wp2
        refine bodyPost_ret (results_2fa (fn := Try.f36) rfl _ _ (w.heap.size + 1 + 1) (w.heap.size + 1 + 1 + 1) Fa.zero Fa.zero false rfl rfl rfl (by simp (maxDischargeDepth := 12) [*, go_sem, ↓IntWalk.iteOmega, Fa.zero]) (by simp (maxDischargeDepth := 12) [*, go_sem, ↓IntWalk.iteOmega, Fa.zero]) (by simp (maxDischargeDepth := 12) [*, go_sem, ↓IntWalk.iteOmega, Fa.zero]) (by simp (maxDischargeDepth := 12) [*, go_sem, ↓IntWalk.iteOmega, Fa.zero]) (by simp (maxDischargeDepth := 12) [*, go_sem, ↓IntWalk.iteOmega, Fa.zero]) (by simp (maxDischargeDepth := 12) [*, go_sem, ↓IntWalk.iteOmega, Fa.zero]) (by simp (maxDischargeDepth := 12) [*, go_sem, ↓IntWalk.iteOmega, Fa.zero]) (by simp (maxDischargeDepth := 12) [*, go_sem, ↓IntWalk.iteOmega, Fa.zero])) rfl ⟨rfl, (by repeat' (first | (with_reducible exact Below.refl _ _) | (with_reducible assumption) | (with_reducible refine Below.alloc ?_ ?_ _) | (with_reducible refine Below.setCell ?_ ?_ _) | (with_reducible refine Below.drew ?_) | (with_reducible refine below_dn ?_ _) | (with_reducible refine Below.trans ?_ (Below.mono (by assumption) ?_)) | go_size))⟩
      · rcases Y with _ | y
        · (try simp only [Tn.eta, Sp.eta, Fa.eta, Fa.zero, Option.isSome_some, Option.isSome_none, Option.getD_some, Option.getD_none, if_true, Bool.false_eq_true, if_false])
          go_wp2
          refine bodyPost_ret (results_2fa (fn := Try.f36) rfl _ _ (w.heap.size + 1 + 1) (w.heap.size + 1 + 1 + 1) Fa.zero Fa.zero false rfl rfl rfl (by simp (maxDischargeDepth := 12) [*, go_sem, ↓IntWalk.iteOmega, Fa.zero]) (by simp (maxDischargeDepth := 12) [*, go_sem, ↓IntWalk.iteOmega, Fa.zero]) (by simp (maxDischargeDepth := 12) [*, go_sem, ↓IntWalk.iteOmega, Fa.zero]) (by simp (maxDischargeDepth := 12) [*, go_sem, ↓IntWalk.iteOmega, Fa.zero]) (by simp (maxDischargeDepth := 12) [*, go_sem, ↓IntWalk.iteOmega, Fa.zero]) (by simp (maxDischargeDepth := 12) [*, go_sem, ↓IntWalk.iteOmega, Fa.zero]) (by simp (maxDischargeDepth := 12) [*, go_sem, ↓IntWalk.iteOmega, Fa.zero]) (by simp (maxDischargeDepth := 12) [*, go_sem, ↓IntWalk.iteOmega, Fa.zero])) rfl ⟨rfl, (by repeat' (first | (with_reducible exact Below.refl _ _) | (with_reducible assumption) | (with_reducible refine Below.alloc ?_ ?_ _) | (with_reducible refine Below.setCell ?_ ?_ _) | (with_reducible refine Below.drew ?_) | (with_reducible refine below_dn ?_ _) | (with_reducible refine Below.trans ?_ (Below.mono (by assumption) ?_)) | go_size))⟩
        · (try simp only [Tn.eta, Sp.eta, Fa.eta, Fa.zero, Option.isSome_some, Option.isSome_none, Option.getD_some, Option.getD_none, if_true, Bool.false_eq_true, if_false])
          go_wp2_with fail
          go_region
          (try go_wp2)
          refine bodyPost_ret (results_2fa (fn := Try.f36) rfl _ _ (w.heap.size + 1 + 1) (w.heap.size + 1 + 1 + 1) x y true rfl rfl rfl (by simp (maxDischargeDepth := 12) [*, go_sem, ↓IntWalk.iteOmega, Fa.zero]) (by simp (maxDischargeDepth := 12) [*, go_sem, ↓IntWalk.iteOmega, Fa.zero]) (by simp (maxDischargeDepth := 12) [*, go_sem, ↓IntWalk.iteOmega, Fa.zero]) (by simp (maxDischargeDepth := 12) [*, go_sem, ↓IntWalk.iteOmega, Fa.zero]) (by simp (maxDischargeDepth := 12) [*, go_sem, ↓IntWalk.iteOmega, Fa.zero]) (by simp (maxDischargeDepth := 12) [*, go_sem, ↓IntWalk.iteOmega, Fa.zero]) (by simp (maxDischargeDepth := 12) [*, go_sem, ↓IntWalk.iteOmega, Fa.zero]) (by simp (maxDischargeDepth := 12) [*, go_sem, ↓IntWalk.iteOmega, Fa.zero])) rfl ⟨rfl, (by repeat' (first | (with_reducible exact Below.refl _ _) | (with_reducible assumption) | (with_reducible refine Below.alloc ?_ ?_ _) | (with_reducible refine Below.setCell ?_ ?_ _) | (with_reducible refine Below.drew ?_) | (with_reducible refine below_dn ?_ _) | (with_reducible refine Below.trans ?_ (Below.mono (by assumption) ?_)) | go_size))⟩

end Hk
