/- The reference of facts: If (of others); old memory is as it was. No condition but those in each statement. -/
import Derived.Test.YtmhkngblpojeaaaProg
import Derived.Test.YtmhkngblpojeaaaGp
import Derived.Test.YtmhkngblpojeaaaFaIf
import Derived.Test.YtmhkngblpojeaaaGx
import Derived.Test.YtmhkngblpojeaaaFr13
import Derived.Test.YtmhkngblpojeaaaSr3
import Derived.Test.YtmhkngblpojeaaaGe
import Derived.Test.YtmhkngblpojeaaaFa13
import Derived.Test.YtmhkngblpojeaaaGr
import Derived.Test.YtmhkngblpojeaaaGl
namespace Hk
open Go Go.RowKit Go.Proofs
set_option linter.unusedSimpArgs false
set_option linter.unusedVariables false
set_option maxRecDepth 100000
attribute [go_sem] Tn.eta
attribute [go_sem] Cond.val_some Cond.err_some Cond.val_none Cond.err_none
set_option maxHeartbeats 8000000 in
theorem rfif_r0 (op : Int) (wd : Bool) (a b : Fa) (oa : Fa.ok a = true) (ob : Fa.ok b = true) (ka kb : Bool) (hka : Hid ((Fa.known a).isSome = ka)) (hkb : Hid ((Fa.known b).isSome = kb)) (hk : (ka && kb) = false) (ha hb : Bool) (hha : Hid (decide (4294967296#64 ≤ a.s.hi) = ha)) (hhb : Hid (decide (4294967296#64 ≤ b.s.hi) = hb)) (hl : (!wd && (ha || hb)) = false) (n16 : ¬ op = 16) (hT : Cond.turned op = none) (w : World) : Calls Try.prog 36 #[.int .u8 op, .bool wd, .agg #[.int .u64 (N a.t.v), .int .u64 (N a.t.m), .int .u64 (N a.s.lo), .int .u64 (N a.s.hi)], .agg #[.int .u64 (N b.t.v), .int .u64 (N b.t.m), .int .u64 (N b.s.lo), .int .u64 (N b.s.hi)]] w fun e w' => e = .returned (.tuple #[.agg #[.int .u64 (N (((Fa.if_ op wd a b).getD (Fa.zero, Fa.zero)).1).t.v), .int .u64 (N (((Fa.if_ op wd a b).getD (Fa.zero, Fa.zero)).1).t.m), .int .u64 (N (((Fa.if_ op wd a b).getD (Fa.zero, Fa.zero)).1).s.lo), .int .u64 (N (((Fa.if_ op wd a b).getD (Fa.zero, Fa.zero)).1).s.hi)], .agg #[.int .u64 (N (((Fa.if_ op wd a b).getD (Fa.zero, Fa.zero)).2).t.v), .int .u64 (N (((Fa.if_ op wd a b).getD (Fa.zero, Fa.zero)).2).t.m), .int .u64 (N (((Fa.if_ op wd a b).getD (Fa.zero, Fa.zero)).2).s.lo), .int .u64 (N (((Fa.if_ op wd a b).getD (Fa.zero, Fa.zero)).2).s.hi)], .bool (Fa.if_ op wd a b).isSome]) ∧ Below w.heap.size w w' := by
  obtain ⟨g1, hg1⟩ : ∃ x, Hid ((Sp.if_ (op) a.s b.s).getD ⟨0, 0⟩ = x) := ⟨_, Lib.hid rfl⟩
  obtain ⟨o1, ho1⟩ : ∃ x, Hid ((Sp.if_ (op) a.s b.s).isSome = x) := ⟨_, Lib.hid rfl⟩
  obtain ⟨X, hX⟩ : ∃ X, Hid (Fa.wth ⟨a.t, a.s⟩ g1 o1 = X) := ⟨_, Lib.hid rfl⟩
  obtain ⟨Y, hY⟩ : ∃ Y, Hid (Fa.wth ⟨b.t, b.s⟩ b.s true = Y) := ⟨_, Lib.hid rfl⟩
  have e1 : ((Sp.if_ (op) a.s b.s).bind fun r => Fa.settle ⟨a.t, r⟩) = X := by rw [← hX.out, ← hg1.out, ← ho1.out]; exact (Fa.wth_bind (f := ⟨a.t, a.s⟩)).symm
  have e2 : ((some b.s).bind fun r => Fa.settle ⟨b.t, r⟩) = Y := by rw [← hY.out]; exact rfl
  have hkn : Fa.known a = none ∨ Fa.known b = none := by
    rcases h1 : Fa.known a with _ | p
    · exact .inl rfl
    · rcases h2 : Fa.known b with _ | q
      · exact .inr rfl
      · have q1 := hka.out; have q2 := hkb.out; rw [h1] at q1; rw [h2] at q2; rw [← q1, ← q2] at hk; cases hk
  have hlo : wd = true ∨ decide (4294967296#64 ≤ Sp.mx a.s.hi b.s.hi) = false := by
    rw [Fa.hi_ref, hha.out, hhb.out]
    cases wd
    · right; simpa using hl
    · exact .inl rfl
  have hE : Fa.if_ (op) wd a b = (X.bind fun x => Y.bind fun y => some (x, y)) := by
    rw [Fa.if_k oa ob hkn, Fa.if_lo hlo, if_neg n16, Fa.ranges_is]
    have e3 : Fa.back (op) a b = some b.s := by unfold Fa.back; rw [hT]
    rw [e3]
    simp only [e1, e2]
    clear e1 e2 hX hY
    cases X
    · rfl
    · cases Y <;> rfl
  rw [hE]
  have hTh := Lib.hid hT
  clear hE e1 e2 hkn hlo hT
  go_enter Try.func36, Try.ntmps36
  go_wp2_with fail
  refine (rfright_c' _ _ _ _ _).mono ?_
  rintro e w1 ⟨rfl, hbw1⟩
  obtain ⟨hcw1, hfw1, hzw1⟩ := bcell hbw1
  (try simp only [World.size_alloc, World.size_setCell, World.size_drew] at hcw1 hfw1 hzw1)
  (try simp only [Tn.eta, Sp.eta, Fa.eta, oa, Option.isSome_some, Option.isSome_none, Option.getD_some, Option.getD_none, if_true, Bool.false_eq_true, if_false])
  go_wp2_with fail
  refine (rfright_c' _ _ _ _ _).mono ?_
  rintro e w2 ⟨rfl, hbw2⟩
  obtain ⟨hcw2, hfw2, hzw2⟩ := bcell hbw2
  (try simp only [World.size_alloc, World.size_setCell, World.size_drew] at hcw2 hfw2 hzw2)
  (try simp only [Tn.eta, Sp.eta, Fa.eta, ob, Option.isSome_some, Option.isSome_none, Option.getD_some, Option.getD_none, if_true, Bool.false_eq_true, if_false])
  go_wp2_with fail
  refine (rfknown_c' _ _ _ _ _).mono ?_
  rintro e w3 ⟨rfl, hbw3⟩
  obtain ⟨hcw3, hfw3, hzw3⟩ := bcell hbw3
  (try simp only [World.size_alloc, World.size_setCell, World.size_drew] at hcw3 hfw3 hzw3)
  (try simp only [Tn.eta, Sp.eta, Fa.eta, hka.out, Option.isSome_some, Option.isSome_none, Option.getD_some, Option.getD_none, if_true, Bool.false_eq_true, if_false])
  go_wp2_with fail
  refine (rfknown_c' _ _ _ _ _).mono ?_
  rintro e w4 ⟨rfl, hbw4⟩
  obtain ⟨hcw4, hfw4, hzw4⟩ := bcell hbw4
  (try simp only [World.size_alloc, World.size_setCell, World.size_drew] at hcw4 hfw4 hzw4)
  (try simp only [Tn.eta, Sp.eta, Fa.eta, hkb.out, Option.isSome_some, Option.isSome_none, Option.getD_some, Option.getD_none, if_true, Bool.false_eq_true, if_false])
  go_upto_region 5 with fail
  go_cut [50] (fun s5 wx => s5 = .bool false ∧ w4 = wx)
  case first =>
    cases ka <;> cases kb <;> first | (exact absurd hk (by decide)) | (go_wp2_with fail; go_meet; exact ⟨rfl, rfl⟩)
  case rest =>
    obtain ⟨rfl, rfl⟩ := hcut
    go_upto_region 10 with fail
    go_cut [82] (fun s8 wx => s8 = .bool false ∧ w4 = wx)
    case first =>
      have ha1 := hha.out
      have hb1 := hhb.out
      cases wd <;> cases ha <;> cases hb <;> first | (exact absurd hl (by decide)) | (go_wp2_with fail; go_meet; exact ⟨rfl, rfl⟩)
    case rest =>
      obtain ⟨rfl, rfl⟩ := hcut
      go_wp2_with fail
      refine (rsif_c' _ _ _ _ _ _).mono ?_
      rintro e w6 ⟨rfl, hbw6⟩
      obtain ⟨hcw6, hfw6, hzw6⟩ := bcell hbw6
      (try simp only [World.size_alloc, World.size_setCell, World.size_drew] at hcw6 hfw6 hzw6)
      (try simp only [Tn.eta, Sp.eta, Fa.eta, hg1.out, ho1.out, Option.isSome_some, Option.isSome_none, Option.getD_some, Option.getD_none, if_true, Bool.false_eq_true, if_false])
      go_wp2_with fail
      refine (rfwith_c' _ _ _ _ _ _ _ _).mono ?_
      rintro e w7 ⟨rfl, hbw7⟩
      obtain ⟨hcw7, hfw7, hzw7⟩ := bcell hbw7
      (try simp only [World.size_alloc, World.size_setCell, World.size_drew] at hcw7 hfw7 hzw7)
      (try simp only [Tn.eta, Sp.eta, Fa.eta, hX.out, Option.isSome_some, Option.isSome_none, Option.getD_some, Option.getD_none, if_true, Bool.false_eq_true, if_false])
      go_wp2_with fail
      refine (rturned_c _ _).mono ?_
      rintro e wR ⟨rfl, hbwR⟩
      obtain ⟨hcwR, hfwR, hzwR⟩ := bcell hbwR
      (try simp only [World.size_alloc, World.size_setCell, World.size_drew] at hcwR hfwR hzwR)
      (try simp only [Tn.eta, Sp.eta, Fa.eta, hTh.out, Option.isSome_some, Option.isSome_none, Option.getD_some, Option.getD_none, if_true, Bool.false_eq_true, if_false])
      go_wp2_with fail
      refine (rfwith_c' _ _ _ _ _ _ _ _).mono ?_
      rintro e w9 ⟨rfl, hbw9⟩
      obtain ⟨hcw9, hfw9, hzw9⟩ := bcell hbw9
      (try simp only [World.size_alloc, World.size_setCell, World.size_drew] at hcw9 hfw9 hzw9)
      (try simp only [Tn.eta, Sp.eta, Fa.eta, hY.out, Option.isSome_some, Option.isSome_none, Option.getD_some, Option.getD_none, if_true, Bool.false_eq_true, if_false])
      rcases X with _ | x
      · (try simp only [Tn.eta, Sp.eta, Fa.eta, Fa.zero, Option.isSome_some, Option.isSome_none, Option.getD_some, Option.getD_none, if_true, Bool.false_eq_true, if_false])
        go_wp2
        refine bodyPost_ret (results_2fa (fn := Try.f36) rfl _ _ (w.heap.size + 1 + 1) (w.heap.size + 1 + 1 + 1) Fa.zero Fa.zero false rfl rfl rfl (by simp (maxDischargeDepth := 12) [*, go_sem, ↓IntWalk.iteOmega, Fa.zero]) (by simp (maxDischargeDepth := 12) [*, go_sem, ↓IntWalk.iteOmega, Fa.zero]) (by simp (maxDischargeDepth := 12) [*, go_sem, ↓IntWalk.iteOmega, Fa.zero]) (by simp (maxDischargeDepth := 12) [*, go_sem, ↓IntWalk.iteOmega, Fa.zero]) (by simp (maxDischargeDepth := 12) [*, go_sem, ↓IntWalk.iteOmega, Fa.zero]) (by simp (maxDischargeDepth := 12) [*, go_sem, ↓IntWalk.iteOmega, Fa.zero]) (by simp (maxDischargeDepth := 12) [*, go_sem, ↓IntWalk.iteOmega, Fa.zero]) (by simp (maxDischargeDepth := 12) [*, go_sem, ↓IntWalk.iteOmega, Fa.zero])) rfl ⟨rfl, (by repeat' (first | (with_reducible exact Below.refl _ _) | (with_reducible assumption) | (with_reducible refine Below.alloc ?_ ?_ _) | (with_reducible refine Below.setCell ?_ ?_ _) | (with_reducible refine Below.drew ?_) | (with_reducible refine below_dn ?_ _) | (with_reducible refine Below.trans ?_ (Below.mono (by assumption) ?_)) | go_size))⟩
      · rcases Y with _ | y
        · (try simp only [Tn.eta, Sp.eta, Fa.eta, Fa.zero, Option.isSome_some, Option.isSome_none, Option.getD_some, Option.getD_none, if_true, Bool.false_eq_true, if_false])
          go_wp2
          refine bodyPost_ret (results_2fa (fn := Try.f36) rfl _ _ (w.heap.size + 1 + 1) (w.heap.size + 1 + 1 + 1) Fa.zero Fa.zero false rfl rfl rfl (by simp (maxDischargeDepth := 12) [*, go_sem, ↓IntWalk.iteOmega, Fa.zero]) (by simp (maxDischargeDepth := 12) [*, go_sem, ↓IntWalk.iteOmega, Fa.zero]) (by simp (maxDischargeDepth := 12) [*, go_sem, ↓IntWalk.iteOmega, Fa.zero]) (by simp (maxDischargeDepth := 12) [*, go_sem, ↓IntWalk.iteOmega, Fa.zero]) (by simp (maxDischargeDepth := 12) [*, go_sem, ↓IntWalk.iteOmega, Fa.zero]) (by simp (maxDischargeDepth := 12) [*, go_sem, ↓IntWalk.iteOmega, Fa.zero]) (by simp (maxDischargeDepth := 12) [*, go_sem, ↓IntWalk.iteOmega, Fa.zero]) (by simp (maxDischargeDepth := 12) [*, go_sem, ↓IntWalk.iteOmega, Fa.zero])) rfl ⟨rfl, (by repeat' (first | (with_reducible exact Below.refl _ _) | (with_reducible assumption) | (with_reducible refine Below.alloc ?_ ?_ _) | (with_reducible refine Below.setCell ?_ ?_ _) | (with_reducible refine Below.drew ?_) | (with_reducible refine below_dn ?_ _) | (with_reducible refine Below.trans ?_ (Below.mono (by assumption) ?_)) | go_size))⟩
        · (try simp only [Tn.eta, Sp.eta, Fa.eta, Fa.zero, Option.isSome_some, Option.isSome_none, Option.getD_some, Option.getD_none, if_true, Bool.false_eq_true, if_false])
          go_wp2_with fail
          go_region
          (try go_wp2)
          refine bodyPost_ret (results_2fa (fn := Try.f36) rfl _ _ (w.heap.size + 1 + 1) (w.heap.size + 1 + 1 + 1) x y true rfl rfl rfl (by simp (maxDischargeDepth := 12) [*, go_sem, ↓IntWalk.iteOmega, Fa.zero]) (by simp (maxDischargeDepth := 12) [*, go_sem, ↓IntWalk.iteOmega, Fa.zero]) (by simp (maxDischargeDepth := 12) [*, go_sem, ↓IntWalk.iteOmega, Fa.zero]) (by simp (maxDischargeDepth := 12) [*, go_sem, ↓IntWalk.iteOmega, Fa.zero]) (by simp (maxDischargeDepth := 12) [*, go_sem, ↓IntWalk.iteOmega, Fa.zero]) (by simp (maxDischargeDepth := 12) [*, go_sem, ↓IntWalk.iteOmega, Fa.zero]) (by simp (maxDischargeDepth := 12) [*, go_sem, ↓IntWalk.iteOmega, Fa.zero]) (by simp (maxDischargeDepth := 12) [*, go_sem, ↓IntWalk.iteOmega, Fa.zero])) rfl ⟨rfl, (by repeat' (first | (with_reducible exact Below.refl _ _) | (with_reducible assumption) | (with_reducible refine Below.alloc ?_ ?_ _) | (with_reducible refine Below.setCell ?_ ?_ _) | (with_reducible refine Below.drew ?_) | (with_reducible refine below_dn ?_ _) | (with_reducible refine Below.trans ?_ (Below.mono (by assumption) ?_)) | go_size))⟩

set_option maxHeartbeats 8000000 in
theorem rfif_r1 (op : Int) (wd : Bool) (a b : Fa) (oa : Fa.ok a = true) (ob : Fa.ok b = true) (ka kb : Bool) (hka : Hid ((Fa.known a).isSome = ka)) (hkb : Hid ((Fa.known b).isSome = kb)) (hk : (ka && kb) = false) (ha hb : Bool) (hha : Hid (decide (4294967296#64 ≤ a.s.hi) = ha)) (hhb : Hid (decide (4294967296#64 ≤ b.s.hi) = hb)) (hl : (!wd && (ha || hb)) = false) (n16 : ¬ op = 16) (bk : Int) (hT : Cond.turned op = some bk) (w : World) : Calls Try.prog 36 #[.int .u8 op, .bool wd, .agg #[.int .u64 (N a.t.v), .int .u64 (N a.t.m), .int .u64 (N a.s.lo), .int .u64 (N a.s.hi)], .agg #[.int .u64 (N b.t.v), .int .u64 (N b.t.m), .int .u64 (N b.s.lo), .int .u64 (N b.s.hi)]] w fun e w' => e = .returned (.tuple #[.agg #[.int .u64 (N (((Fa.if_ op wd a b).getD (Fa.zero, Fa.zero)).1).t.v), .int .u64 (N (((Fa.if_ op wd a b).getD (Fa.zero, Fa.zero)).1).t.m), .int .u64 (N (((Fa.if_ op wd a b).getD (Fa.zero, Fa.zero)).1).s.lo), .int .u64 (N (((Fa.if_ op wd a b).getD (Fa.zero, Fa.zero)).1).s.hi)], .agg #[.int .u64 (N (((Fa.if_ op wd a b).getD (Fa.zero, Fa.zero)).2).t.v), .int .u64 (N (((Fa.if_ op wd a b).getD (Fa.zero, Fa.zero)).2).t.m), .int .u64 (N (((Fa.if_ op wd a b).getD (Fa.zero, Fa.zero)).2).s.lo), .int .u64 (N (((Fa.if_ op wd a b).getD (Fa.zero, Fa.zero)).2).s.hi)], .bool (Fa.if_ op wd a b).isSome]) ∧ Below w.heap.size w w' := by
  obtain ⟨g1, hg1⟩ : ∃ x, Hid ((Sp.if_ (op) a.s b.s).getD ⟨0, 0⟩ = x) := ⟨_, Lib.hid rfl⟩
  obtain ⟨o1, ho1⟩ : ∃ x, Hid ((Sp.if_ (op) a.s b.s).isSome = x) := ⟨_, Lib.hid rfl⟩
  obtain ⟨g2, hg2⟩ : ∃ x, Hid ((Sp.if_ (bk) b.s a.s).getD ⟨0, 0⟩ = x) := ⟨_, Lib.hid rfl⟩
  obtain ⟨o2, ho2⟩ : ∃ x, Hid ((Sp.if_ (bk) b.s a.s).isSome = x) := ⟨_, Lib.hid rfl⟩
  obtain ⟨X, hX⟩ : ∃ X, Hid (Fa.wth ⟨a.t, a.s⟩ g1 o1 = X) := ⟨_, Lib.hid rfl⟩
  obtain ⟨Y, hY⟩ : ∃ Y, Hid (Fa.wth ⟨b.t, b.s⟩ g2 o2 = Y) := ⟨_, Lib.hid rfl⟩
  have e1 : ((Sp.if_ (op) a.s b.s).bind fun r => Fa.settle ⟨a.t, r⟩) = X := by rw [← hX.out, ← hg1.out, ← ho1.out]; exact (Fa.wth_bind (f := ⟨a.t, a.s⟩)).symm
  have e2 : ((Sp.if_ (bk) b.s a.s).bind fun r => Fa.settle ⟨b.t, r⟩) = Y := by rw [← hY.out, ← hg2.out, ← ho2.out]; exact (Fa.wth_bind (f := ⟨b.t, b.s⟩)).symm
  have hkn : Fa.known a = none ∨ Fa.known b = none := by
    rcases h1 : Fa.known a with _ | p
    · exact .inl rfl
    · rcases h2 : Fa.known b with _ | q
      · exact .inr rfl
      · have q1 := hka.out; have q2 := hkb.out; rw [h1] at q1; rw [h2] at q2; rw [← q1, ← q2] at hk; cases hk
  have hlo : wd = true ∨ decide (4294967296#64 ≤ Sp.mx a.s.hi b.s.hi) = false := by
    rw [Fa.hi_ref, hha.out, hhb.out]
    cases wd
    · right; simpa using hl
    · exact .inl rfl
  have hE : Fa.if_ (op) wd a b = (X.bind fun x => Y.bind fun y => some (x, y)) := by
    rw [Fa.if_k oa ob hkn, Fa.if_lo hlo, if_neg n16, Fa.ranges_is]
    have e3 : Fa.back (op) a b = Sp.if_ (bk) b.s a.s := by unfold Fa.back; rw [hT]
    rw [e3]
    simp only [e1, e2]
    clear e1 e2 hX hY
    cases X
    · rfl
    · cases Y <;> rfl
  rw [hE]
  have hTh := Lib.hid hT
  clear hE e1 e2 hkn hlo hT
  go_enter Try.func36, Try.ntmps36
  go_wp2_with fail
  refine (rfright_c' _ _ _ _ _).mono ?_
  rintro e w1 ⟨rfl, hbw1⟩
  obtain ⟨hcw1, hfw1, hzw1⟩ := bcell hbw1
  (try simp only [World.size_alloc, World.size_setCell, World.size_drew] at hcw1 hfw1 hzw1)
  (try simp only [Tn.eta, Sp.eta, Fa.eta, oa, Option.isSome_some, Option.isSome_none, Option.getD_some, Option.getD_none, if_true, Bool.false_eq_true, if_false])
  go_wp2_with fail
  refine (rfright_c' _ _ _ _ _).mono ?_
  rintro e w2 ⟨rfl, hbw2⟩
  obtain ⟨hcw2, hfw2, hzw2⟩ := bcell hbw2
  (try simp only [World.size_alloc, World.size_setCell, World.size_drew] at hcw2 hfw2 hzw2)
  (try simp only [Tn.eta, Sp.eta, Fa.eta, ob, Option.isSome_some, Option.isSome_none, Option.getD_some, Option.getD_none, if_true, Bool.false_eq_true, if_false])
  go_wp2_with fail
  refine (rfknown_c' _ _ _ _ _).mono ?_
  rintro e w3 ⟨rfl, hbw3⟩
  obtain ⟨hcw3, hfw3, hzw3⟩ := bcell hbw3
  (try simp only [World.size_alloc, World.size_setCell, World.size_drew] at hcw3 hfw3 hzw3)
  (try simp only [Tn.eta, Sp.eta, Fa.eta, hka.out, Option.isSome_some, Option.isSome_none, Option.getD_some, Option.getD_none, if_true, Bool.false_eq_true, if_false])
  go_wp2_with fail
  refine (rfknown_c' _ _ _ _ _).mono ?_
  rintro e w4 ⟨rfl, hbw4⟩
  obtain ⟨hcw4, hfw4, hzw4⟩ := bcell hbw4
  (try simp only [World.size_alloc, World.size_setCell, World.size_drew] at hcw4 hfw4 hzw4)
  (try simp only [Tn.eta, Sp.eta, Fa.eta, hkb.out, Option.isSome_some, Option.isSome_none, Option.getD_some, Option.getD_none, if_true, Bool.false_eq_true, if_false])
  go_upto_region 5 with fail
  go_cut [50] (fun s5 wx => s5 = .bool false ∧ w4 = wx)
  case first =>
    cases ka <;> cases kb <;> first | (exact absurd hk (by decide)) | (go_wp2_with fail; go_meet; exact ⟨rfl, rfl⟩)
  case rest =>
    obtain ⟨rfl, rfl⟩ := hcut
    go_upto_region 10 with fail
    go_cut [82] (fun s8 wx => s8 = .bool false ∧ w4 = wx)
    case first =>
      have ha1 := hha.out
      have hb1 := hhb.out
      cases wd <;> cases ha <;> cases hb <;> first | (exact absurd hl (by decide)) | (go_wp2_with fail; go_meet; exact ⟨rfl, rfl⟩)
    case rest =>
      obtain ⟨rfl, rfl⟩ := hcut
      go_wp2_with fail
      refine (rsif_c' _ _ _ _ _ _).mono ?_
      rintro e w6 ⟨rfl, hbw6⟩
      obtain ⟨hcw6, hfw6, hzw6⟩ := bcell hbw6
      (try simp only [World.size_alloc, World.size_setCell, World.size_drew] at hcw6 hfw6 hzw6)
      (try simp only [Tn.eta, Sp.eta, Fa.eta, hg1.out, ho1.out, Option.isSome_some, Option.isSome_none, Option.getD_some, Option.getD_none, if_true, Bool.false_eq_true, if_false])
      go_wp2_with fail
      refine (rfwith_c' _ _ _ _ _ _ _ _).mono ?_
      rintro e w7 ⟨rfl, hbw7⟩
      obtain ⟨hcw7, hfw7, hzw7⟩ := bcell hbw7
      (try simp only [World.size_alloc, World.size_setCell, World.size_drew] at hcw7 hfw7 hzw7)
      (try simp only [Tn.eta, Sp.eta, Fa.eta, hX.out, Option.isSome_some, Option.isSome_none, Option.getD_some, Option.getD_none, if_true, Bool.false_eq_true, if_false])
      go_wp2_with fail
      refine (rturned_c _ _).mono ?_
      rintro e wR ⟨rfl, hbwR⟩
      obtain ⟨hcwR, hfwR, hzwR⟩ := bcell hbwR
      (try simp only [World.size_alloc, World.size_setCell, World.size_drew] at hcwR hfwR hzwR)
      (try simp only [Tn.eta, Sp.eta, Fa.eta, hTh.out, Option.isSome_some, Option.isSome_none, Option.getD_some, Option.getD_none, if_true, Bool.false_eq_true, if_false])
      go_wp2_with fail
      refine (rsif_c' _ _ _ _ _ _).mono ?_
      rintro e w8 ⟨rfl, hbw8⟩
      obtain ⟨hcw8, hfw8, hzw8⟩ := bcell hbw8
      (try simp only [World.size_alloc, World.size_setCell, World.size_drew] at hcw8 hfw8 hzw8)
      (try simp only [Tn.eta, Sp.eta, Fa.eta, hg2.out, ho2.out, Option.isSome_some, Option.isSome_none, Option.getD_some, Option.getD_none, if_true, Bool.false_eq_true, if_false])
      go_wp2_with fail
      refine (rfwith_c' _ _ _ _ _ _ _ _).mono ?_
      rintro e w9 ⟨rfl, hbw9⟩
      obtain ⟨hcw9, hfw9, hzw9⟩ := bcell hbw9
      (try simp only [World.size_alloc, World.size_setCell, World.size_drew] at hcw9 hfw9 hzw9)
      (try simp only [Tn.eta, Sp.eta, Fa.eta, hY.out, Option.isSome_some, Option.isSome_none, Option.getD_some, Option.getD_none, if_true, Bool.false_eq_true, if_false])
      rcases X with _ | x
      · (try simp only [Tn.eta, Sp.eta, Fa.eta, Fa.zero, Option.isSome_some, Option.isSome_none, Option.getD_some, Option.getD_none, if_true, Bool.false_eq_true, if_false])
        go_wp2
        refine bodyPost_ret (results_2fa (fn := Try.f36) rfl _ _ (w.heap.size + 1 + 1) (w.heap.size + 1 + 1 + 1) Fa.zero Fa.zero false rfl rfl rfl (by simp (maxDischargeDepth := 12) [*, go_sem, ↓IntWalk.iteOmega, Fa.zero]) (by simp (maxDischargeDepth := 12) [*, go_sem, ↓IntWalk.iteOmega, Fa.zero]) (by simp (maxDischargeDepth := 12) [*, go_sem, ↓IntWalk.iteOmega, Fa.zero]) (by simp (maxDischargeDepth := 12) [*, go_sem, ↓IntWalk.iteOmega, Fa.zero]) (by simp (maxDischargeDepth := 12) [*, go_sem, ↓IntWalk.iteOmega, Fa.zero]) (by simp (maxDischargeDepth := 12) [*, go_sem, ↓IntWalk.iteOmega, Fa.zero]) (by simp (maxDischargeDepth := 12) [*, go_sem, ↓IntWalk.iteOmega, Fa.zero]) (by simp (maxDischargeDepth := 12) [*, go_sem, ↓IntWalk.iteOmega, Fa.zero])) rfl ⟨rfl, (by repeat' (first | (with_reducible exact Below.refl _ _) | (with_reducible assumption) | (with_reducible refine Below.alloc ?_ ?_ _) | (with_reducible refine Below.setCell ?_ ?_ _) | (with_reducible refine Below.drew ?_) | (with_reducible refine below_dn ?_ _) | (with_reducible refine Below.trans ?_ (Below.mono (by assumption) ?_)) | go_size))⟩
      · rcases Y with _ | y
        · (try simp only [Tn.eta, Sp.eta, Fa.eta, Fa.zero, Option.isSome_some, Option.isSome_none, Option.getD_some, Option.getD_none, if_true, Bool.false_eq_true, if_false])
          go_wp2
          refine bodyPost_ret (results_2fa (fn := Try.f36) rfl _ _ (w.heap.size + 1 + 1) (w.heap.size + 1 + 1 + 1) Fa.zero Fa.zero false rfl rfl rfl (by simp (maxDischargeDepth := 12) [*, go_sem, ↓IntWalk.iteOmega, Fa.zero]) (by simp (maxDischargeDepth := 12) [*, go_sem, ↓IntWalk.iteOmega, Fa.zero]) (by simp (maxDischargeDepth := 12) [*, go_sem, ↓IntWalk.iteOmega, Fa.zero]) (by simp (maxDischargeDepth := 12) [*, go_sem, ↓IntWalk.iteOmega, Fa.zero]) (by simp (maxDischargeDepth := 12) [*, go_sem, ↓IntWalk.iteOmega, Fa.zero]) (by simp (maxDischargeDepth := 12) [*, go_sem, ↓IntWalk.iteOmega, Fa.zero]) (by simp (maxDischargeDepth := 12) [*, go_sem, ↓IntWalk.iteOmega, Fa.zero]) (by simp (maxDischargeDepth := 12) [*, go_sem, ↓IntWalk.iteOmega, Fa.zero])) rfl ⟨rfl, (by repeat' (first | (with_reducible exact Below.refl _ _) | (with_reducible assumption) | (with_reducible refine Below.alloc ?_ ?_ _) | (with_reducible refine Below.setCell ?_ ?_ _) | (with_reducible refine Below.drew ?_) | (with_reducible refine below_dn ?_ _) | (with_reducible refine Below.trans ?_ (Below.mono (by assumption) ?_)) | go_size))⟩
        · (try simp only [Tn.eta, Sp.eta, Fa.eta, Fa.zero, Option.isSome_some, Option.isSome_none, Option.getD_some, Option.getD_none, if_true, Bool.false_eq_true, if_false])
          go_wp2_with fail
          go_region
          (try go_wp2)
          refine bodyPost_ret (results_2fa (fn := Try.f36) rfl _ _ (w.heap.size + 1 + 1) (w.heap.size + 1 + 1 + 1) x y true rfl rfl rfl (by simp (maxDischargeDepth := 12) [*, go_sem, ↓IntWalk.iteOmega, Fa.zero]) (by simp (maxDischargeDepth := 12) [*, go_sem, ↓IntWalk.iteOmega, Fa.zero]) (by simp (maxDischargeDepth := 12) [*, go_sem, ↓IntWalk.iteOmega, Fa.zero]) (by simp (maxDischargeDepth := 12) [*, go_sem, ↓IntWalk.iteOmega, Fa.zero]) (by simp (maxDischargeDepth := 12) [*, go_sem, ↓IntWalk.iteOmega, Fa.zero]) (by simp (maxDischargeDepth := 12) [*, go_sem, ↓IntWalk.iteOmega, Fa.zero]) (by simp (maxDischargeDepth := 12) [*, go_sem, ↓IntWalk.iteOmega, Fa.zero]) (by simp (maxDischargeDepth := 12) [*, go_sem, ↓IntWalk.iteOmega, Fa.zero])) rfl ⟨rfl, (by repeat' (first | (with_reducible exact Below.refl _ _) | (with_reducible assumption) | (with_reducible refine Below.alloc ?_ ?_ _) | (with_reducible refine Below.setCell ?_ ?_ _) | (with_reducible refine Below.drew ?_) | (with_reducible refine below_dn ?_ _) | (with_reducible refine Below.trans ?_ (Below.mono (by assumption) ?_)) | go_size))⟩

end Hk
