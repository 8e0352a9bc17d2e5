/- The reference of facts: If (the ways on which nothing is asked of ranges); old memory is as it was. No condition but those in each statement. -/
import Derived.Test.YtmhkngblpojeaaaProg
import Derived.Test.YtmhkngblpojeaaaGp
import Derived.Test.YtmhkngblpojeaaaFaIf
import Derived.Test.YtmhkngblpojeaaaGx
import Derived.Test.YtmhkngblpojeaaaFr13
import Derived.Test.YtmhkngblpojeaaaSr3
import Derived.Test.YtmhkngblpojeaaaGe
import Derived.Test.YtmhkngblpojeaaaFa13
import Derived.Test.YtmhkngblpojeaaaGr
import Derived.Test.YtmhkngblpojeaaaGl
namespace Hk
open Go Go.RowKit Go.Proofs
set_option linter.unusedSimpArgs false
set_option linter.unusedVariables false
set_option maxRecDepth 100000
attribute [go_sem] Tn.eta
attribute [go_sem] Cond.val_some Cond.err_some Cond.val_none Cond.err_none
set_option maxHeartbeats 2000000 in
theorem rfif_n1 (op : Int) (wd : Bool) (a b : Fa) (oa : Fa.ok a = false) (w : World) : Calls Try.prog 36 #[.int .u8 op, .bool wd, .agg #[.int .u64 (N a.t.v), .int .u64 (N a.t.m), .int .u64 (N a.s.lo), .int .u64 (N a.s.hi)], .agg #[.int .u64 (N b.t.v), .int .u64 (N b.t.m), .int .u64 (N b.s.lo), .int .u64 (N b.s.hi)]] w fun e w' => e = .returned (.tuple #[.agg #[.int .u64 (N (((Fa.if_ op wd a b).getD (Fa.zero, Fa.zero)).1).t.v), .int .u64 (N (((Fa.if_ op wd a b).getD (Fa.zero, Fa.zero)).1).t.m), .int .u64 (N (((Fa.if_ op wd a b).getD (Fa.zero, Fa.zero)).1).s.lo), .int .u64 (N (((Fa.if_ op wd a b).getD (Fa.zero, Fa.zero)).1).s.hi)], .agg #[.int .u64 (N (((Fa.if_ op wd a b).getD (Fa.zero, Fa.zero)).2).t.v), .int .u64 (N (((Fa.if_ op wd a b).getD (Fa.zero, Fa.zero)).2).t.m), .int .u64 (N (((Fa.if_ op wd a b).getD (Fa.zero, Fa.zero)).2).s.lo), .int .u64 (N (((Fa.if_ op wd a b).getD (Fa.zero, Fa.zero)).2).s.hi)], .bool (Fa.if_ op wd a b).isSome]) ∧ Below w.heap.size w w' := by
  have hE : Fa.if_ op wd a b = none := Fa.if_n1 oa
  rw [hE]
  clear hE
  go_enter Try.func36, Try.ntmps36
  go_wp2_with fail
  refine (rfright_c' _ _ _ _ _).mono ?_
  rintro e w1 ⟨rfl, hbw1⟩
  obtain ⟨hcw1, hfw1, hzw1⟩ := bcell hbw1
  (try simp only [World.size_alloc, World.size_setCell, World.size_drew] at hcw1 hfw1 hzw1)
  (try simp only [Tn.eta, Sp.eta, Fa.eta, oa, Option.isSome_some, Option.isSome_none, Option.getD_some, Option.getD_none, if_true, Bool.false_eq_true, if_false])
  go_wp2
  refine bodyPost_ret (results_2fa (fn := Try.f36) rfl _ _ (w.heap.size + 1 + 1) (w.heap.size + 1 + 1 + 1) Fa.zero Fa.zero false rfl rfl rfl (by simp (maxDischargeDepth := 12) [*, go_sem, ↓IntWalk.iteOmega, Fa.zero]) (by simp (maxDischargeDepth := 12) [*, go_sem, ↓IntWalk.iteOmega, Fa.zero]) (by simp (maxDischargeDepth := 12) [*, go_sem, ↓IntWalk.iteOmega, Fa.zero]) (by simp (maxDischargeDepth := 12) [*, go_sem, ↓IntWalk.iteOmega, Fa.zero]) (by simp (maxDischargeDepth := 12) [*, go_sem, ↓IntWalk.iteOmega, Fa.zero]) (by simp (maxDischargeDepth := 12) [*, go_sem, ↓IntWalk.iteOmega, Fa.zero]) (by simp (maxDischargeDepth := 12) [*, go_sem, ↓IntWalk.iteOmega, Fa.zero]) (by simp (maxDischargeDepth := 12) [*, go_sem, ↓IntWalk.iteOmega, Fa.zero])) rfl ⟨rfl, (by repeat' (first | (with_reducible exact Below.refl _ _) | (with_reducible assumption) | (with_reducible refine Below.alloc ?_ ?_ _) | (with_reducible refine Below.setCell ?_ ?_ _) | (with_reducible refine Below.drew ?_) | (with_reducible refine below_dn ?_ _) | (with_reducible refine Below.trans ?_ (Below.mono (by assumption) ?_)) | go_size))⟩

set_option maxHeartbeats 2000000 in
theorem rfif_n2 (op : Int) (wd : Bool) (a b : Fa) (oa : Fa.ok a = true) (ob : Fa.ok b = false) (w : World) : Calls Try.prog 36 #[.int .u8 op, .bool wd, .agg #[.int .u64 (N a.t.v), .int .u64 (N a.t.m), .int .u64 (N a.s.lo), .int .u64 (N a.s.hi)], .agg #[.int .u64 (N b.t.v), .int .u64 (N b.t.m), .int .u64 (N b.s.lo), .int .u64 (N b.s.hi)]] w fun e w' => e = .returned (.tuple #[.agg #[.int .u64 (N (((Fa.if_ op wd a b).getD (Fa.zero, Fa.zero)).1).t.v), .int .u64 (N (((Fa.if_ op wd a b).getD (Fa.zero, Fa.zero)).1).t.m), .int .u64 (N (((Fa.if_ op wd a b).getD (Fa.zero, Fa.zero)).1).s.lo), .int .u64 (N (((Fa.if_ op wd a b).getD (Fa.zero, Fa.zero)).1).s.hi)], .agg #[.int .u64 (N (((Fa.if_ op wd a b).getD (Fa.zero, Fa.zero)).2).t.v), .int .u64 (N (((Fa.if_ op wd a b).getD (Fa.zero, Fa.zero)).2).t.m), .int .u64 (N (((Fa.if_ op wd a b).getD (Fa.zero, Fa.zero)).2).s.lo), .int .u64 (N (((Fa.if_ op wd a b).getD (Fa.zero, Fa.zero)).2).s.hi)], .bool (Fa.if_ op wd a b).isSome]) ∧ Below w.heap.size w w' := by
  have hE : Fa.if_ op wd a b = none := Fa.if_n2 oa ob
  rw [hE]
  clear hE
  go_enter Try.func36, Try.ntmps36
  go_wp2_with fail
  refine (rfright_c' _ _ _ _ _).mono ?_
  rintro e w1 ⟨rfl, hbw1⟩
  obtain ⟨hcw1, hfw1, hzw1⟩ := bcell hbw1
  (try simp only [World.size_alloc, World.size_setCell, World.size_drew] at hcw1 hfw1 hzw1)
  (try simp only [Tn.eta, Sp.eta, Fa.eta, oa, Option.isSome_some, Option.isSome_none, Option.getD_some, Option.getD_none, if_true, Bool.false_eq_true, if_false])
  go_wp2_with fail
  refine (rfright_c' _ _ _ _ _).mono ?_
  rintro e w2 ⟨rfl, hbw2⟩
  obtain ⟨hcw2, hfw2, hzw2⟩ := bcell hbw2
  (try simp only [World.size_alloc, World.size_setCell, World.size_drew] at hcw2 hfw2 hzw2)
  (try simp only [Tn.eta, Sp.eta, Fa.eta, ob, Option.isSome_some, Option.isSome_none, Option.getD_some, Option.getD_none, if_true, Bool.false_eq_true, if_false])
  go_wp2
  refine bodyPost_ret (results_2fa (fn := Try.f36) rfl _ _ (w.heap.size + 1 + 1) (w.heap.size + 1 + 1 + 1) Fa.zero Fa.zero false rfl rfl rfl (by simp (maxDischargeDepth := 12) [*, go_sem, ↓IntWalk.iteOmega, Fa.zero]) (by simp (maxDischargeDepth := 12) [*, go_sem, ↓IntWalk.iteOmega, Fa.zero]) (by simp (maxDischargeDepth := 12) [*, go_sem, ↓IntWalk.iteOmega, Fa.zero]) (by simp (maxDischargeDepth := 12) [*, go_sem, ↓IntWalk.iteOmega, Fa.zero]) (by simp (maxDischargeDepth := 12) [*, go_sem, ↓IntWalk.iteOmega, Fa.zero]) (by simp (maxDischargeDepth := 12) [*, go_sem, ↓IntWalk.iteOmega, Fa.zero]) (by simp (maxDischargeDepth := 12) [*, go_sem, ↓IntWalk.iteOmega, Fa.zero]) (by simp (maxDischargeDepth := 12) [*, go_sem, ↓IntWalk.iteOmega, Fa.zero])) rfl ⟨rfl, (by repeat' (first | (with_reducible exact Below.refl _ _) | (with_reducible assumption) | (with_reducible refine Below.alloc ?_ ?_ _) | (with_reducible refine Below.setCell ?_ ?_ _) | (with_reducible refine Below.drew ?_) | (with_reducible refine below_dn ?_ _) | (with_reducible refine Below.trans ?_ (Below.mono (by assumption) ?_)) | go_size))⟩

set_option maxHeartbeats 2000000 in
theorem rfif_kn (op : Int) (wd : Bool) (a b : Fa) (oa : Fa.ok a = true) (ob : Fa.ok b = true) (p q : BitVec 64) (hka : Fa.known a = some p) (hkb : Fa.known b = some q) (hc : Cond.is op wd p q = none) (w : World) : Calls Try.prog 36 #[.int .u8 op, .bool wd, .agg #[.int .u64 (N a.t.v), .int .u64 (N a.t.m), .int .u64 (N a.s.lo), .int .u64 (N a.s.hi)], .agg #[.int .u64 (N b.t.v), .int .u64 (N b.t.m), .int .u64 (N b.s.lo), .int .u64 (N b.s.hi)]] w fun e w' => e = .returned (.tuple #[.agg #[.int .u64 (N (((Fa.if_ op wd a b).getD (Fa.zero, Fa.zero)).1).t.v), .int .u64 (N (((Fa.if_ op wd a b).getD (Fa.zero, Fa.zero)).1).t.m), .int .u64 (N (((Fa.if_ op wd a b).getD (Fa.zero, Fa.zero)).1).s.lo), .int .u64 (N (((Fa.if_ op wd a b).getD (Fa.zero, Fa.zero)).1).s.hi)], .agg #[.int .u64 (N (((Fa.if_ op wd a b).getD (Fa.zero, Fa.zero)).2).t.v), .int .u64 (N (((Fa.if_ op wd a b).getD (Fa.zero, Fa.zero)).2).t.m), .int .u64 (N (((Fa.if_ op wd a b).getD (Fa.zero, Fa.zero)).2).s.lo), .int .u64 (N (((Fa.if_ op wd a b).getD (Fa.zero, Fa.zero)).2).s.hi)], .bool (Fa.if_ op wd a b).isSome]) ∧ Below w.heap.size w w' := by
  have hE : Fa.if_ op wd a b = none := by rw [Fa.if_kk oa ob hka hkb, hc]; rfl
  rw [hE]
  clear hE
  go_enter Try.func36, Try.ntmps36
  go_wp2_with fail
  refine (rfright_c' _ _ _ _ _).mono ?_
  rintro e w1 ⟨rfl, hbw1⟩
  obtain ⟨hcw1, hfw1, hzw1⟩ := bcell hbw1
  (try simp only [World.size_alloc, World.size_setCell, World.size_drew] at hcw1 hfw1 hzw1)
  (try simp only [Tn.eta, Sp.eta, Fa.eta, oa, Option.isSome_some, Option.isSome_none, Option.getD_some, Option.getD_none, if_true, Bool.false_eq_true, if_false])
  go_wp2_with fail
  refine (rfright_c' _ _ _ _ _).mono ?_
  rintro e w2 ⟨rfl, hbw2⟩
  obtain ⟨hcw2, hfw2, hzw2⟩ := bcell hbw2
  (try simp only [World.size_alloc, World.size_setCell, World.size_drew] at hcw2 hfw2 hzw2)
  (try simp only [Tn.eta, Sp.eta, Fa.eta, ob, Option.isSome_some, Option.isSome_none, Option.getD_some, Option.getD_none, if_true, Bool.false_eq_true, if_false])
  go_wp2_with fail
  refine (rfknown_c' _ _ _ _ _).mono ?_
  rintro e w3 ⟨rfl, hbw3⟩
  obtain ⟨hcw3, hfw3, hzw3⟩ := bcell hbw3
  (try simp only [World.size_alloc, World.size_setCell, World.size_drew] at hcw3 hfw3 hzw3)
  (try simp only [Tn.eta, Sp.eta, Fa.eta, hka, Option.isSome_some, Option.isSome_none, Option.getD_some, Option.getD_none, if_true, Bool.false_eq_true, if_false])
  go_wp2_with fail
  refine (rfknown_c' _ _ _ _ _).mono ?_
  rintro e w4 ⟨rfl, hbw4⟩
  obtain ⟨hcw4, hfw4, hzw4⟩ := bcell hbw4
  (try simp only [World.size_alloc, World.size_setCell, World.size_drew] at hcw4 hfw4 hzw4)
  (try simp only [Tn.eta, Sp.eta, Fa.eta, hkb, Option.isSome_some, Option.isSome_none, Option.getD_some, Option.getD_none, if_true, Bool.false_eq_true, if_false])
  go_wp2_with fail
  refine (ris_c _ _ _ _ _).mono ?_
  rintro e wT ⟨rfl, rfl⟩
  (try simp only [Tn.eta, Sp.eta, Fa.eta, hc, Cond.val_some, Cond.err_some, Cond.val_none, Cond.err_none, Option.isSome_some, Option.isSome_none, Option.getD_some, Option.getD_none, if_true, Bool.false_eq_true, if_false])
  go_wp2
  refine bodyPost_ret (results_2fa (fn := Try.f36) rfl _ _ (w.heap.size + 1 + 1) (w.heap.size + 1 + 1 + 1) Fa.zero Fa.zero false rfl rfl rfl (by simp (maxDischargeDepth := 12) [*, go_sem, ↓IntWalk.iteOmega, Fa.zero]) (by simp (maxDischargeDepth := 12) [*, go_sem, ↓IntWalk.iteOmega, Fa.zero]) (by simp (maxDischargeDepth := 12) [*, go_sem, ↓IntWalk.iteOmega, Fa.zero]) (by simp (maxDischargeDepth := 12) [*, go_sem, ↓IntWalk.iteOmega, Fa.zero]) (by simp (maxDischargeDepth := 12) [*, go_sem, ↓IntWalk.iteOmega, Fa.zero]) (by simp (maxDischargeDepth := 12) [*, go_sem, ↓IntWalk.iteOmega, Fa.zero]) (by simp (maxDischargeDepth := 12) [*, go_sem, ↓IntWalk.iteOmega, Fa.zero]) (by simp (maxDischargeDepth := 12) [*, go_sem, ↓IntWalk.iteOmega, Fa.zero])) rfl ⟨rfl, (by repeat' (first | (with_reducible exact Below.refl _ _) | (with_reducible assumption) | (with_reducible refine Below.alloc ?_ ?_ _) | (with_reducible refine Below.setCell ?_ ?_ _) | (with_reducible refine Below.drew ?_) | (with_reducible refine below_dn ?_ _) | (with_reducible refine Below.trans ?_ (Below.mono (by assumption) ?_)) | go_size))⟩

set_option maxHeartbeats 2000000 in
theorem rfif_kf (op : Int) (wd : Bool) (a b : Fa) (oa : Fa.ok a = true) (ob : Fa.ok b = true) (p q : BitVec 64) (hka : Fa.known a = some p) (hkb : Fa.known b = some q) (hc : Cond.is op wd p q = some false) (w : World) : Calls Try.prog 36 #[.int .u8 op, .bool wd, .agg #[.int .u64 (N a.t.v), .int .u64 (N a.t.m), .int .u64 (N a.s.lo), .int .u64 (N a.s.hi)], .agg #[.int .u64 (N b.t.v), .int .u64 (N b.t.m), .int .u64 (N b.s.lo), .int .u64 (N b.s.hi)]] w fun e w' => e = .returned (.tuple #[.agg #[.int .u64 (N (((Fa.if_ op wd a b).getD (Fa.zero, Fa.zero)).1).t.v), .int .u64 (N (((Fa.if_ op wd a b).getD (Fa.zero, Fa.zero)).1).t.m), .int .u64 (N (((Fa.if_ op wd a b).getD (Fa.zero, Fa.zero)).1).s.lo), .int .u64 (N (((Fa.if_ op wd a b).getD (Fa.zero, Fa.zero)).1).s.hi)], .agg #[.int .u64 (N (((Fa.if_ op wd a b).getD (Fa.zero, Fa.zero)).2).t.v), .int .u64 (N (((Fa.if_ op wd a b).getD (Fa.zero, Fa.zero)).2).t.m), .int .u64 (N (((Fa.if_ op wd a b).getD (Fa.zero, Fa.zero)).2).s.lo), .int .u64 (N (((Fa.if_ op wd a b).getD (Fa.zero, Fa.zero)).2).s.hi)], .bool (Fa.if_ op wd a b).isSome]) ∧ Below w.heap.size w w' := by
  have hE : Fa.if_ op wd a b = none := by rw [Fa.if_kk oa ob hka hkb, hc]; rfl
  rw [hE]
  clear hE
  go_enter Try.func36, Try.ntmps36
  go_wp2_with fail
  refine (rfright_c' _ _ _ _ _).mono ?_
  rintro e w1 ⟨rfl, hbw1⟩
  obtain ⟨hcw1, hfw1, hzw1⟩ := bcell hbw1
  (try simp only [World.size_alloc, World.size_setCell, World.size_drew] at hcw1 hfw1 hzw1)
  (try simp only [Tn.eta, Sp.eta, Fa.eta, oa, Option.isSome_some, Option.isSome_none, Option.getD_some, Option.getD_none, if_true, Bool.false_eq_true, if_false])
  go_wp2_with fail
  refine (rfright_c' _ _ _ _ _).mono ?_
  rintro e w2 ⟨rfl, hbw2⟩
  obtain ⟨hcw2, hfw2, hzw2⟩ := bcell hbw2
  (try simp only [World.size_alloc, World.size_setCell, World.size_drew] at hcw2 hfw2 hzw2)
  (try simp only [Tn.eta, Sp.eta, Fa.eta, ob, Option.isSome_some, Option.isSome_none, Option.getD_some, Option.getD_none, if_true, Bool.false_eq_true, if_false])
  go_wp2_with fail
  refine (rfknown_c' _ _ _ _ _).mono ?_
  rintro e w3 ⟨rfl, hbw3⟩
  obtain ⟨hcw3, hfw3, hzw3⟩ := bcell hbw3
  (try simp only [World.size_alloc, World.size_setCell, World.size_drew] at hcw3 hfw3 hzw3)
  (try simp only [Tn.eta, Sp.eta, Fa.eta, hka, Option.isSome_some, Option.isSome_none, Option.getD_some, Option.getD_none, if_true, Bool.false_eq_true, if_false])
  go_wp2_with fail
  refine (rfknown_c' _ _ _ _ _).mono ?_
  rintro e w4 ⟨rfl, hbw4⟩
  obtain ⟨hcw4, hfw4, hzw4⟩ := bcell hbw4
  (try simp only [World.size_alloc, World.size_setCell, World.size_drew] at hcw4 hfw4 hzw4)
  (try simp only [Tn.eta, Sp.eta, Fa.eta, hkb, Option.isSome_some, Option.isSome_none, Option.getD_some, Option.getD_none, if_true, Bool.false_eq_true, if_false])
  go_wp2_with fail
  refine (ris_c _ _ _ _ _).mono ?_
  rintro e wT ⟨rfl, rfl⟩
  (try simp only [Tn.eta, Sp.eta, Fa.eta, hc, Cond.val_some, Cond.err_some, Cond.val_none, Cond.err_none, Option.isSome_some, Option.isSome_none, Option.getD_some, Option.getD_none, if_true, Bool.false_eq_true, if_false])
  go_wp2
  refine bodyPost_ret (results_2fa (fn := Try.f36) rfl _ _ (w.heap.size + 1 + 1) (w.heap.size + 1 + 1 + 1) Fa.zero Fa.zero false rfl rfl rfl (by simp (maxDischargeDepth := 12) [*, go_sem, ↓IntWalk.iteOmega, Fa.zero]) (by simp (maxDischargeDepth := 12) [*, go_sem, ↓IntWalk.iteOmega, Fa.zero]) (by simp (maxDischargeDepth := 12) [*, go_sem, ↓IntWalk.iteOmega, Fa.zero]) (by simp (maxDischargeDepth := 12) [*, go_sem, ↓IntWalk.iteOmega, Fa.zero]) (by simp (maxDischargeDepth := 12) [*, go_sem, ↓IntWalk.iteOmega, Fa.zero]) (by simp (maxDischargeDepth := 12) [*, go_sem, ↓IntWalk.iteOmega, Fa.zero]) (by simp (maxDischargeDepth := 12) [*, go_sem, ↓IntWalk.iteOmega, Fa.zero]) (by simp (maxDischargeDepth := 12) [*, go_sem, ↓IntWalk.iteOmega, Fa.zero])) rfl ⟨rfl, (by repeat' (first | (with_reducible exact Below.refl _ _) | (with_reducible assumption) | (with_reducible refine Below.alloc ?_ ?_ _) | (with_reducible refine Below.setCell ?_ ?_ _) | (with_reducible refine Below.drew ?_) | (with_reducible refine below_dn ?_ _) | (with_reducible refine Below.trans ?_ (Below.mono (by assumption) ?_)) | go_size))⟩

set_option maxHeartbeats 2000000 in
theorem rfif_kt (op : Int) (wd : Bool) (a b : Fa) (oa : Fa.ok a = true) (ob : Fa.ok b = true) (p q : BitVec 64) (hka : Fa.known a = some p) (hkb : Fa.known b = some q) (hc : Cond.is op wd p q = some true) (w : World) : Calls Try.prog 36 #[.int .u8 op, .bool wd, .agg #[.int .u64 (N a.t.v), .int .u64 (N a.t.m), .int .u64 (N a.s.lo), .int .u64 (N a.s.hi)], .agg #[.int .u64 (N b.t.v), .int .u64 (N b.t.m), .int .u64 (N b.s.lo), .int .u64 (N b.s.hi)]] w fun e w' => e = .returned (.tuple #[.agg #[.int .u64 (N (((Fa.if_ op wd a b).getD (Fa.zero, Fa.zero)).1).t.v), .int .u64 (N (((Fa.if_ op wd a b).getD (Fa.zero, Fa.zero)).1).t.m), .int .u64 (N (((Fa.if_ op wd a b).getD (Fa.zero, Fa.zero)).1).s.lo), .int .u64 (N (((Fa.if_ op wd a b).getD (Fa.zero, Fa.zero)).1).s.hi)], .agg #[.int .u64 (N (((Fa.if_ op wd a b).getD (Fa.zero, Fa.zero)).2).t.v), .int .u64 (N (((Fa.if_ op wd a b).getD (Fa.zero, Fa.zero)).2).t.m), .int .u64 (N (((Fa.if_ op wd a b).getD (Fa.zero, Fa.zero)).2).s.lo), .int .u64 (N (((Fa.if_ op wd a b).getD (Fa.zero, Fa.zero)).2).s.hi)], .bool (Fa.if_ op wd a b).isSome]) ∧ Below w.heap.size w w' := by
  have hE : Fa.if_ op wd a b = some (a, b) := by rw [Fa.if_kk oa ob hka hkb, hc]; rfl
  rw [hE]
  clear hE
  go_enter Try.func36, Try.ntmps36
  go_wp2_with fail
  refine (rfright_c' _ _ _ _ _).mono ?_
  rintro e w1 ⟨rfl, hbw1⟩
  obtain ⟨hcw1, hfw1, hzw1⟩ := bcell hbw1
  (try simp only [World.size_alloc, World.size_setCell, World.size_drew] at hcw1 hfw1 hzw1)
  (try simp only [Tn.eta, Sp.eta, Fa.eta, oa, Option.isSome_some, Option.isSome_none, Option.getD_some, Option.getD_none, if_true, Bool.false_eq_true, if_false])
  go_wp2_with fail
  refine (rfright_c' _ _ _ _ _).mono ?_
  rintro e w2 ⟨rfl, hbw2⟩
  obtain ⟨hcw2, hfw2, hzw2⟩ := bcell hbw2
  (try simp only [World.size_alloc, World.size_setCell, World.size_drew] at hcw2 hfw2 hzw2)
  (try simp only [Tn.eta, Sp.eta, Fa.eta, ob, Option.isSome_some, Option.isSome_none, Option.getD_some, Option.getD_none, if_true, Bool.false_eq_true, if_false])
  go_wp2_with fail
  refine (rfknown_c' _ _ _ _ _).mono ?_
  rintro e w3 ⟨rfl, hbw3⟩
  obtain ⟨hcw3, hfw3, hzw3⟩ := bcell hbw3
  (try simp only [World.size_alloc, World.size_setCell, World.size_drew] at hcw3 hfw3 hzw3)
  (try simp only [Tn.eta, Sp.eta, Fa.eta, hka, Option.isSome_some, Option.isSome_none, Option.getD_some, Option.getD_none, if_true, Bool.false_eq_true, if_false])
  go_wp2_with fail
  refine (rfknown_c' _ _ _ _ _).mono ?_
  rintro e w4 ⟨rfl, hbw4⟩
  obtain ⟨hcw4, hfw4, hzw4⟩ := bcell hbw4
  (try simp only [World.size_alloc, World.size_setCell, World.size_drew] at hcw4 hfw4 hzw4)
  (try simp only [Tn.eta, Sp.eta, Fa.eta, hkb, Option.isSome_some, Option.isSome_none, Option.getD_some, Option.getD_none, if_true, Bool.false_eq_true, if_false])
  go_wp2_with fail
  refine (ris_c _ _ _ _ _).mono ?_
  rintro e wT ⟨rfl, rfl⟩
  (try simp only [Tn.eta, Sp.eta, Fa.eta, hc, Cond.val_some, Cond.err_some, Cond.val_none, Cond.err_none, Option.isSome_some, Option.isSome_none, Option.getD_some, Option.getD_none, if_true, Bool.false_eq_true, if_false])
  go_wp2_with fail
  go_region
  (try go_wp2)
  refine bodyPost_ret (results_2fa (fn := Try.f36) rfl _ _ (w.heap.size + 1 + 1) (w.heap.size + 1 + 1 + 1) a b true rfl rfl rfl (by simp (maxDischargeDepth := 12) [*, go_sem, ↓IntWalk.iteOmega, Fa.zero]) (by simp (maxDischargeDepth := 12) [*, go_sem, ↓IntWalk.iteOmega, Fa.zero]) (by simp (maxDischargeDepth := 12) [*, go_sem, ↓IntWalk.iteOmega, Fa.zero]) (by simp (maxDischargeDepth := 12) [*, go_sem, ↓IntWalk.iteOmega, Fa.zero]) (by simp (maxDischargeDepth := 12) [*, go_sem, ↓IntWalk.iteOmega, Fa.zero]) (by simp (maxDischargeDepth := 12) [*, go_sem, ↓IntWalk.iteOmega, Fa.zero]) (by simp (maxDischargeDepth := 12) [*, go_sem, ↓IntWalk.iteOmega, Fa.zero]) (by simp (maxDischargeDepth := 12) [*, go_sem, ↓IntWalk.iteOmega, Fa.zero])) rfl ⟨rfl, (by repeat' (first | (with_reducible exact Below.refl _ _) | (with_reducible assumption) | (with_reducible refine Below.alloc ?_ ?_ _) | (with_reducible refine Below.setCell ?_ ?_ _) | (with_reducible refine Below.drew ?_) | (with_reducible refine below_dn ?_ _) | (with_reducible refine Below.trans ?_ (Below.mono (by assumption) ?_)) | go_size))⟩

set_option maxHeartbeats 2000000 in
theorem rfif_hif0 (op : Int) (a b : Fa) (oa : Fa.ok a = true) (ob : Fa.ok b = true) (hka : Fa.known a = none) (hl : decide (4294967296#64 ≤ a.s.hi) = true) (w : World) : Calls Try.prog 36 #[.int .u8 op, .bool false, .agg #[.int .u64 (N a.t.v), .int .u64 (N a.t.m), .int .u64 (N a.s.lo), .int .u64 (N a.s.hi)], .agg #[.int .u64 (N b.t.v), .int .u64 (N b.t.m), .int .u64 (N b.s.lo), .int .u64 (N b.s.hi)]] w fun e w' => e = .returned (.tuple #[.agg #[.int .u64 (N (((Fa.if_ op false a b).getD (Fa.zero, Fa.zero)).1).t.v), .int .u64 (N (((Fa.if_ op false a b).getD (Fa.zero, Fa.zero)).1).t.m), .int .u64 (N (((Fa.if_ op false a b).getD (Fa.zero, Fa.zero)).1).s.lo), .int .u64 (N (((Fa.if_ op false a b).getD (Fa.zero, Fa.zero)).1).s.hi)], .agg #[.int .u64 (N (((Fa.if_ op false a b).getD (Fa.zero, Fa.zero)).2).t.v), .int .u64 (N (((Fa.if_ op false a b).getD (Fa.zero, Fa.zero)).2).t.m), .int .u64 (N (((Fa.if_ op false a b).getD (Fa.zero, Fa.zero)).2).s.lo), .int .u64 (N (((Fa.if_ op false a b).getD (Fa.zero, Fa.zero)).2).s.hi)], .bool (Fa.if_ op false a b).isSome]) ∧ Below w.heap.size w w' := by
  have hE : Fa.if_ op false a b = some (a, b) := by rw [Fa.if_k oa ob (.inl hka)]; exact Fa.if_hi (by rw [Fa.hi_ref]; rw [hl]; rfl)
  rw [hE]
  clear hE
  go_enter Try.func36, Try.ntmps36
  go_wp2_with fail
  refine (rfright_c' _ _ _ _ _).mono ?_
  rintro e w1 ⟨rfl, hbw1⟩
  obtain ⟨hcw1, hfw1, hzw1⟩ := bcell hbw1
  (try simp only [World.size_alloc, World.size_setCell, World.size_drew] at hcw1 hfw1 hzw1)
  (try simp only [Tn.eta, Sp.eta, Fa.eta, oa, Option.isSome_some, Option.isSome_none, Option.getD_some, Option.getD_none, if_true, Bool.false_eq_true, if_false])
  go_wp2_with fail
  refine (rfright_c' _ _ _ _ _).mono ?_
  rintro e w2 ⟨rfl, hbw2⟩
  obtain ⟨hcw2, hfw2, hzw2⟩ := bcell hbw2
  (try simp only [World.size_alloc, World.size_setCell, World.size_drew] at hcw2 hfw2 hzw2)
  (try simp only [Tn.eta, Sp.eta, Fa.eta, ob, Option.isSome_some, Option.isSome_none, Option.getD_some, Option.getD_none, if_true, Bool.false_eq_true, if_false])
  go_wp2_with fail
  refine (rfknown_c' _ _ _ _ _).mono ?_
  rintro e w3 ⟨rfl, hbw3⟩
  obtain ⟨hcw3, hfw3, hzw3⟩ := bcell hbw3
  (try simp only [World.size_alloc, World.size_setCell, World.size_drew] at hcw3 hfw3 hzw3)
  (try simp only [Tn.eta, Sp.eta, Fa.eta, hka, Option.isSome_some, Option.isSome_none, Option.getD_some, Option.getD_none, if_true, Bool.false_eq_true, if_false])
  go_wp2_with fail
  refine (rfknown_c' _ _ _ _ _).mono ?_
  rintro e w4 ⟨rfl, hbw4⟩
  obtain ⟨hcw4, hfw4, hzw4⟩ := bcell hbw4
  (try simp only [World.size_alloc, World.size_setCell, World.size_drew] at hcw4 hfw4 hzw4)
  (try simp only [Tn.eta, Sp.eta, Fa.eta, hka, Option.isSome_some, Option.isSome_none, Option.getD_some, Option.getD_none, if_true, Bool.false_eq_true, if_false])
  go_wp2_with fail
  go_region
  (try go_wp2)
  refine bodyPost_ret (results_2fa (fn := Try.f36) rfl _ _ (w.heap.size + 1 + 1) (w.heap.size + 1 + 1 + 1) a b true rfl rfl rfl (by simp (maxDischargeDepth := 12) [*, go_sem, ↓IntWalk.iteOmega, Fa.zero]) (by simp (maxDischargeDepth := 12) [*, go_sem, ↓IntWalk.iteOmega, Fa.zero]) (by simp (maxDischargeDepth := 12) [*, go_sem, ↓IntWalk.iteOmega, Fa.zero]) (by simp (maxDischargeDepth := 12) [*, go_sem, ↓IntWalk.iteOmega, Fa.zero]) (by simp (maxDischargeDepth := 12) [*, go_sem, ↓IntWalk.iteOmega, Fa.zero]) (by simp (maxDischargeDepth := 12) [*, go_sem, ↓IntWalk.iteOmega, Fa.zero]) (by simp (maxDischargeDepth := 12) [*, go_sem, ↓IntWalk.iteOmega, Fa.zero]) (by simp (maxDischargeDepth := 12) [*, go_sem, ↓IntWalk.iteOmega, Fa.zero])) rfl ⟨rfl, (by repeat' (first | (with_reducible exact Below.refl _ _) | (with_reducible assumption) | (with_reducible refine Below.alloc ?_ ?_ _) | (with_reducible refine Below.setCell ?_ ?_ _) | (with_reducible refine Below.drew ?_) | (with_reducible refine below_dn ?_ _) | (with_reducible refine Below.trans ?_ (Below.mono (by assumption) ?_)) | go_size))⟩

set_option maxHeartbeats 2000000 in
theorem rfif_hif1 (op : Int) (a b : Fa) (oa : Fa.ok a = true) (ob : Fa.ok b = true) (hka : Fa.known a = none) (hl0 : decide (4294967296#64 ≤ a.s.hi) = false) (hl : decide (4294967296#64 ≤ b.s.hi) = true) (w : World) : Calls Try.prog 36 #[.int .u8 op, .bool false, .agg #[.int .u64 (N a.t.v), .int .u64 (N a.t.m), .int .u64 (N a.s.lo), .int .u64 (N a.s.hi)], .agg #[.int .u64 (N b.t.v), .int .u64 (N b.t.m), .int .u64 (N b.s.lo), .int .u64 (N b.s.hi)]] w fun e w' => e = .returned (.tuple #[.agg #[.int .u64 (N (((Fa.if_ op false a b).getD (Fa.zero, Fa.zero)).1).t.v), .int .u64 (N (((Fa.if_ op false a b).getD (Fa.zero, Fa.zero)).1).t.m), .int .u64 (N (((Fa.if_ op false a b).getD (Fa.zero, Fa.zero)).1).s.lo), .int .u64 (N (((Fa.if_ op false a b).getD (Fa.zero, Fa.zero)).1).s.hi)], .agg #[.int .u64 (N (((Fa.if_ op false a b).getD (Fa.zero, Fa.zero)).2).t.v), .int .u64 (N (((Fa.if_ op false a b).getD (Fa.zero, Fa.zero)).2).t.m), .int .u64 (N (((Fa.if_ op false a b).getD (Fa.zero, Fa.zero)).2).s.lo), .int .u64 (N (((Fa.if_ op false a b).getD (Fa.zero, Fa.zero)).2).s.hi)], .bool (Fa.if_ op false a b).isSome]) ∧ Below w.heap.size w w' := by
  have hE : Fa.if_ op false a b = some (a, b) := by rw [Fa.if_k oa ob (.inl hka)]; exact Fa.if_hi (by rw [Fa.hi_ref]; rw [hl0, hl]; rfl)
  rw [hE]
  clear hE
  go_enter Try.func36, Try.ntmps36
  go_wp2_with fail
  refine (rfright_c' _ _ _ _ _).mono ?_
  rintro e w1 ⟨rfl, hbw1⟩
  obtain ⟨hcw1, hfw1, hzw1⟩ := bcell hbw1
  (try simp only [World.size_alloc, World.size_setCell, World.size_drew] at hcw1 hfw1 hzw1)
  (try simp only [Tn.eta, Sp.eta, Fa.eta, oa, Option.isSome_some, Option.isSome_none, Option.getD_some, Option.getD_none, if_true, Bool.false_eq_true, if_false])
  go_wp2_with fail
  refine (rfright_c' _ _ _ _ _).mono ?_
  rintro e w2 ⟨rfl, hbw2⟩
  obtain ⟨hcw2, hfw2, hzw2⟩ := bcell hbw2
  (try simp only [World.size_alloc, World.size_setCell, World.size_drew] at hcw2 hfw2 hzw2)
  (try simp only [Tn.eta, Sp.eta, Fa.eta, ob, Option.isSome_some, Option.isSome_none, Option.getD_some, Option.getD_none, if_true, Bool.false_eq_true, if_false])
  go_wp2_with fail
  refine (rfknown_c' _ _ _ _ _).mono ?_
  rintro e w3 ⟨rfl, hbw3⟩
  obtain ⟨hcw3, hfw3, hzw3⟩ := bcell hbw3
  (try simp only [World.size_alloc, World.size_setCell, World.size_drew] at hcw3 hfw3 hzw3)
  (try simp only [Tn.eta, Sp.eta, Fa.eta, hka, Option.isSome_some, Option.isSome_none, Option.getD_some, Option.getD_none, if_true, Bool.false_eq_true, if_false])
  go_wp2_with fail
  refine (rfknown_c' _ _ _ _ _).mono ?_
  rintro e w4 ⟨rfl, hbw4⟩
  obtain ⟨hcw4, hfw4, hzw4⟩ := bcell hbw4
  (try simp only [World.size_alloc, World.size_setCell, World.size_drew] at hcw4 hfw4 hzw4)
  (try simp only [Tn.eta, Sp.eta, Fa.eta, hka, Option.isSome_some, Option.isSome_none, Option.getD_some, Option.getD_none, if_true, Bool.false_eq_true, if_false])
  go_wp2_with fail
  go_region
  (try go_wp2)
  refine bodyPost_ret (results_2fa (fn := Try.f36) rfl _ _ (w.heap.size + 1 + 1) (w.heap.size + 1 + 1 + 1) a b true rfl rfl rfl (by simp (maxDischargeDepth := 12) [*, go_sem, ↓IntWalk.iteOmega, Fa.zero]) (by simp (maxDischargeDepth := 12) [*, go_sem, ↓IntWalk.iteOmega, Fa.zero]) (by simp (maxDischargeDepth := 12) [*, go_sem, ↓IntWalk.iteOmega, Fa.zero]) (by simp (maxDischargeDepth := 12) [*, go_sem, ↓IntWalk.iteOmega, Fa.zero]) (by simp (maxDischargeDepth := 12) [*, go_sem, ↓IntWalk.iteOmega, Fa.zero]) (by simp (maxDischargeDepth := 12) [*, go_sem, ↓IntWalk.iteOmega, Fa.zero]) (by simp (maxDischargeDepth := 12) [*, go_sem, ↓IntWalk.iteOmega, Fa.zero]) (by simp (maxDischargeDepth := 12) [*, go_sem, ↓IntWalk.iteOmega, Fa.zero])) rfl ⟨rfl, (by repeat' (first | (with_reducible exact Below.refl _ _) | (with_reducible assumption) | (with_reducible refine Below.alloc ?_ ?_ _) | (with_reducible refine Below.setCell ?_ ?_ _) | (with_reducible refine Below.drew ?_) | (with_reducible refine below_dn ?_ _) | (with_reducible refine Below.trans ?_ (Below.mono (by assumption) ?_)) | go_size))⟩

set_option maxHeartbeats 2000000 in
theorem rfif_hit0 (op : Int) (a b : Fa) (oa : Fa.ok a = true) (ob : Fa.ok b = true) (p : BitVec 64) (hka : Fa.known a = some p) (hkb : Fa.known b = none) (hl : decide (4294967296#64 ≤ a.s.hi) = true) (w : World) : Calls Try.prog 36 #[.int .u8 op, .bool false, .agg #[.int .u64 (N a.t.v), .int .u64 (N a.t.m), .int .u64 (N a.s.lo), .int .u64 (N a.s.hi)], .agg #[.int .u64 (N b.t.v), .int .u64 (N b.t.m), .int .u64 (N b.s.lo), .int .u64 (N b.s.hi)]] w fun e w' => e = .returned (.tuple #[.agg #[.int .u64 (N (((Fa.if_ op false a b).getD (Fa.zero, Fa.zero)).1).t.v), .int .u64 (N (((Fa.if_ op false a b).getD (Fa.zero, Fa.zero)).1).t.m), .int .u64 (N (((Fa.if_ op false a b).getD (Fa.zero, Fa.zero)).1).s.lo), .int .u64 (N (((Fa.if_ op false a b).getD (Fa.zero, Fa.zero)).1).s.hi)], .agg #[.int .u64 (N (((Fa.if_ op false a b).getD (Fa.zero, Fa.zero)).2).t.v), .int .u64 (N (((Fa.if_ op false a b).getD (Fa.zero, Fa.zero)).2).t.m), .int .u64 (N (((Fa.if_ op false a b).getD (Fa.zero, Fa.zero)).2).s.lo), .int .u64 (N (((Fa.if_ op false a b).getD (Fa.zero, Fa.zero)).2).s.hi)], .bool (Fa.if_ op false a b).isSome]) ∧ Below w.heap.size w w' := by
  have hE : Fa.if_ op false a b = some (a, b) := by rw [Fa.if_k oa ob (.inr hkb)]; exact Fa.if_hi (by rw [Fa.hi_ref]; rw [hl]; rfl)
  rw [hE]
  clear hE
  go_enter Try.func36, Try.ntmps36
  go_wp2_with fail
  refine (rfright_c' _ _ _ _ _).mono ?_
  rintro e w1 ⟨rfl, hbw1⟩
  obtain ⟨hcw1, hfw1, hzw1⟩ := bcell hbw1
  (try simp only [World.size_alloc, World.size_setCell, World.size_drew] at hcw1 hfw1 hzw1)
  (try simp only [Tn.eta, Sp.eta, Fa.eta, oa, Option.isSome_some, Option.isSome_none, Option.getD_some, Option.getD_none, if_true, Bool.false_eq_true, if_false])
  go_wp2_with fail
  refine (rfright_c' _ _ _ _ _).mono ?_
  rintro e w2 ⟨rfl, hbw2⟩
  obtain ⟨hcw2, hfw2, hzw2⟩ := bcell hbw2
  (try simp only [World.size_alloc, World.size_setCell, World.size_drew] at hcw2 hfw2 hzw2)
  (try simp only [Tn.eta, Sp.eta, Fa.eta, ob, Option.isSome_some, Option.isSome_none, Option.getD_some, Option.getD_none, if_true, Bool.false_eq_true, if_false])
  go_wp2_with fail
  refine (rfknown_c' _ _ _ _ _).mono ?_
  rintro e w3 ⟨rfl, hbw3⟩
  obtain ⟨hcw3, hfw3, hzw3⟩ := bcell hbw3
  (try simp only [World.size_alloc, World.size_setCell, World.size_drew] at hcw3 hfw3 hzw3)
  (try simp only [Tn.eta, Sp.eta, Fa.eta, hka, Option.isSome_some, Option.isSome_none, Option.getD_some, Option.getD_none, if_true, Bool.false_eq_true, if_false])
  go_wp2_with fail
  refine (rfknown_c' _ _ _ _ _).mono ?_
  rintro e w4 ⟨rfl, hbw4⟩
  obtain ⟨hcw4, hfw4, hzw4⟩ := bcell hbw4
  (try simp only [World.size_alloc, World.size_setCell, World.size_drew] at hcw4 hfw4 hzw4)
  (try simp only [Tn.eta, Sp.eta, Fa.eta, hkb, Option.isSome_some, Option.isSome_none, Option.getD_some, Option.getD_none, if_true, Bool.false_eq_true, if_false])
  go_wp2_with fail
  go_region
  (try go_wp2)
  refine bodyPost_ret (results_2fa (fn := Try.f36) rfl _ _ (w.heap.size + 1 + 1) (w.heap.size + 1 + 1 + 1) a b true rfl rfl rfl (by simp (maxDischargeDepth := 12) [*, go_sem, ↓IntWalk.iteOmega, Fa.zero]) (by simp (maxDischargeDepth := 12) [*, go_sem, ↓IntWalk.iteOmega, Fa.zero]) (by simp (maxDischargeDepth := 12) [*, go_sem, ↓IntWalk.iteOmega, Fa.zero]) (by simp (maxDischargeDepth := 12) [*, go_sem, ↓IntWalk.iteOmega, Fa.zero]) (by simp (maxDischargeDepth := 12) [*, go_sem, ↓IntWalk.iteOmega, Fa.zero]) (by simp (maxDischargeDepth := 12) [*, go_sem, ↓IntWalk.iteOmega, Fa.zero]) (by simp (maxDischargeDepth := 12) [*, go_sem, ↓IntWalk.iteOmega, Fa.zero]) (by simp (maxDischargeDepth := 12) [*, go_sem, ↓IntWalk.iteOmega, Fa.zero])) rfl ⟨rfl, (by repeat' (first | (with_reducible exact Below.refl _ _) | (with_reducible assumption) | (with_reducible refine Below.alloc ?_ ?_ _) | (with_reducible refine Below.setCell ?_ ?_ _) | (with_reducible refine Below.drew ?_) | (with_reducible refine below_dn ?_ _) | (with_reducible refine Below.trans ?_ (Below.mono (by assumption) ?_)) | go_size))⟩

set_option maxHeartbeats 2000000 in
theorem rfif_hit1 (op : Int) (a b : Fa) (oa : Fa.ok a = true) (ob : Fa.ok b = true) (p : BitVec 64) (hka : Fa.known a = some p) (hkb : Fa.known b = none) (hl0 : decide (4294967296#64 ≤ a.s.hi) = false) (hl : decide (4294967296#64 ≤ b.s.hi) = true) (w : World) : Calls Try.prog 36 #[.int .u8 op, .bool false, .agg #[.int .u64 (N a.t.v), .int .u64 (N a.t.m), .int .u64 (N a.s.lo), .int .u64 (N a.s.hi)], .agg #[.int .u64 (N b.t.v), .int .u64 (N b.t.m), .int .u64 (N b.s.lo), .int .u64 (N b.s.hi)]] w fun e w' => e = .returned (.tuple #[.agg #[.int .u64 (N (((Fa.if_ op false a b).getD (Fa.zero, Fa.zero)).1).t.v), .int .u64 (N (((Fa.if_ op false a b).getD (Fa.zero, Fa.zero)).1).t.m), .int .u64 (N (((Fa.if_ op false a b).getD (Fa.zero, Fa.zero)).1).s.lo), .int .u64 (N (((Fa.if_ op false a b).getD (Fa.zero, Fa.zero)).1).s.hi)], .agg #[.int .u64 (N (((Fa.if_ op false a b).getD (Fa.zero, Fa.zero)).2).t.v), .int .u64 (N (((Fa.if_ op false a b).getD (Fa.zero, Fa.zero)).2).t.m), .int .u64 (N (((Fa.if_ op false a b).getD (Fa.zero, Fa.zero)).2).s.lo), .int .u64 (N (((Fa.if_ op false a b).getD (Fa.zero, Fa.zero)).2).s.hi)], .bool (Fa.if_ op false a b).isSome]) ∧ Below w.heap.size w w' := by
  have hE : Fa.if_ op false a b = some (a, b) := by rw [Fa.if_k oa ob (.inr hkb)]; exact Fa.if_hi (by rw [Fa.hi_ref]; rw [hl0, hl]; rfl)
  rw [hE]
  clear hE
  go_enter Try.func36, Try.ntmps36
  go_wp2_with fail
  refine (rfright_c' _ _ _ _ _).mono ?_
  rintro e w1 ⟨rfl, hbw1⟩
  obtain ⟨hcw1, hfw1, hzw1⟩ := bcell hbw1
  (try simp only [World.size_alloc, World.size_setCell, World.size_drew] at hcw1 hfw1 hzw1)
  (try simp only [Tn.eta, Sp.eta, Fa.eta, oa, Option.isSome_some, Option.isSome_none, Option.getD_some, Option.getD_none, if_true, Bool.false_eq_true, if_false])
  go_wp2_with fail
  refine (rfright_c' _ _ _ _ _).mono ?_
  rintro e w2 ⟨rfl, hbw2⟩
  obtain ⟨hcw2, hfw2, hzw2⟩ := bcell hbw2
  (try simp only [World.size_alloc, World.size_setCell, World.size_drew] at hcw2 hfw2 hzw2)
  (try simp only [Tn.eta, Sp.eta, Fa.eta, ob, Option.isSome_some, Option.isSome_none, Option.getD_some, Option.getD_none, if_true, Bool.false_eq_true, if_false])
  go_wp2_with fail
  refine (rfknown_c' _ _ _ _ _).mono ?_
  rintro e w3 ⟨rfl, hbw3⟩
  obtain ⟨hcw3, hfw3, hzw3⟩ := bcell hbw3
  (try simp only [World.size_alloc, World.size_setCell, World.size_drew] at hcw3 hfw3 hzw3)
  (try simp only [Tn.eta, Sp.eta, Fa.eta, hka, Option.isSome_some, Option.isSome_none, Option.getD_some, Option.getD_none, if_true, Bool.false_eq_true, if_false])
  go_wp2_with fail
  refine (rfknown_c' _ _ _ _ _).mono ?_
  rintro e w4 ⟨rfl, hbw4⟩
  obtain ⟨hcw4, hfw4, hzw4⟩ := bcell hbw4
  (try simp only [World.size_alloc, World.size_setCell, World.size_drew] at hcw4 hfw4 hzw4)
  (try simp only [Tn.eta, Sp.eta, Fa.eta, hkb, Option.isSome_some, Option.isSome_none, Option.getD_some, Option.getD_none, if_true, Bool.false_eq_true, if_false])
  go_wp2_with fail
  go_region
  (try go_wp2)
  refine bodyPost_ret (results_2fa (fn := Try.f36) rfl _ _ (w.heap.size + 1 + 1) (w.heap.size + 1 + 1 + 1) a b true rfl rfl rfl (by simp (maxDischargeDepth := 12) [*, go_sem, ↓IntWalk.iteOmega, Fa.zero]) (by simp (maxDischargeDepth := 12) [*, go_sem, ↓IntWalk.iteOmega, Fa.zero]) (by simp (maxDischargeDepth := 12) [*, go_sem, ↓IntWalk.iteOmega, Fa.zero]) (by simp (maxDischargeDepth := 12) [*, go_sem, ↓IntWalk.iteOmega, Fa.zero]) (by simp (maxDischargeDepth := 12) [*, go_sem, ↓IntWalk.iteOmega, Fa.zero]) (by simp (maxDischargeDepth := 12) [*, go_sem, ↓IntWalk.iteOmega, Fa.zero]) (by simp (maxDischargeDepth := 12) [*, go_sem, ↓IntWalk.iteOmega, Fa.zero]) (by simp (maxDischargeDepth := 12) [*, go_sem, ↓IntWalk.iteOmega, Fa.zero])) rfl ⟨rfl, (by repeat' (first | (with_reducible exact Below.refl _ _) | (with_reducible assumption) | (with_reducible refine Below.alloc ?_ ?_ _) | (with_reducible refine Below.setCell ?_ ?_ _) | (with_reducible refine Below.drew ?_) | (with_reducible refine below_dn ?_ _) | (with_reducible refine Below.trans ?_ (Below.mono (by assumption) ?_)) | go_size))⟩

set_option maxHeartbeats 2000000 in
theorem rfif_mft (a b : Fa) (oa : Fa.ok a = true) (ob : Fa.ok b = true) (hka : Fa.known a = none) (hm : Tn.meetOk a.t b.t = false) (w : World) : Calls Try.prog 36 #[.int .u8 16, .bool true, .agg #[.int .u64 (N a.t.v), .int .u64 (N a.t.m), .int .u64 (N a.s.lo), .int .u64 (N a.s.hi)], .agg #[.int .u64 (N b.t.v), .int .u64 (N b.t.m), .int .u64 (N b.s.lo), .int .u64 (N b.s.hi)]] w fun e w' => e = .returned (.tuple #[.agg #[.int .u64 (N (((Fa.if_ 16 true a b).getD (Fa.zero, Fa.zero)).1).t.v), .int .u64 (N (((Fa.if_ 16 true a b).getD (Fa.zero, Fa.zero)).1).t.m), .int .u64 (N (((Fa.if_ 16 true a b).getD (Fa.zero, Fa.zero)).1).s.lo), .int .u64 (N (((Fa.if_ 16 true a b).getD (Fa.zero, Fa.zero)).1).s.hi)], .agg #[.int .u64 (N (((Fa.if_ 16 true a b).getD (Fa.zero, Fa.zero)).2).t.v), .int .u64 (N (((Fa.if_ 16 true a b).getD (Fa.zero, Fa.zero)).2).t.m), .int .u64 (N (((Fa.if_ 16 true a b).getD (Fa.zero, Fa.zero)).2).s.lo), .int .u64 (N (((Fa.if_ 16 true a b).getD (Fa.zero, Fa.zero)).2).s.hi)], .bool (Fa.if_ 16 true a b).isSome]) ∧ Below w.heap.size w w' := by
  have hE : Fa.if_ 16 true a b = none := by rw [Fa.if_k oa ob (.inl hka), Fa.if_lo (.inl rfl), if_pos rfl, hm]; rfl
  rw [hE]
  clear hE
  go_enter Try.func36, Try.ntmps36
  go_wp2_with fail
  refine (rfright_c' _ _ _ _ _).mono ?_
  rintro e w1 ⟨rfl, hbw1⟩
  obtain ⟨hcw1, hfw1, hzw1⟩ := bcell hbw1
  (try simp only [World.size_alloc, World.size_setCell, World.size_drew] at hcw1 hfw1 hzw1)
  (try simp only [Tn.eta, Sp.eta, Fa.eta, oa, Option.isSome_some, Option.isSome_none, Option.getD_some, Option.getD_none, if_true, Bool.false_eq_true, if_false])
  go_wp2_with fail
  refine (rfright_c' _ _ _ _ _).mono ?_
  rintro e w2 ⟨rfl, hbw2⟩
  obtain ⟨hcw2, hfw2, hzw2⟩ := bcell hbw2
  (try simp only [World.size_alloc, World.size_setCell, World.size_drew] at hcw2 hfw2 hzw2)
  (try simp only [Tn.eta, Sp.eta, Fa.eta, ob, Option.isSome_some, Option.isSome_none, Option.getD_some, Option.getD_none, if_true, Bool.false_eq_true, if_false])
  go_wp2_with fail
  refine (rfknown_c' _ _ _ _ _).mono ?_
  rintro e w3 ⟨rfl, hbw3⟩
  obtain ⟨hcw3, hfw3, hzw3⟩ := bcell hbw3
  (try simp only [World.size_alloc, World.size_setCell, World.size_drew] at hcw3 hfw3 hzw3)
  (try simp only [Tn.eta, Sp.eta, Fa.eta, hka, Option.isSome_some, Option.isSome_none, Option.getD_some, Option.getD_none, if_true, Bool.false_eq_true, if_false])
  go_wp2_with fail
  refine (rfknown_c' _ _ _ _ _).mono ?_
  rintro e w4 ⟨rfl, hbw4⟩
  obtain ⟨hcw4, hfw4, hzw4⟩ := bcell hbw4
  (try simp only [World.size_alloc, World.size_setCell, World.size_drew] at hcw4 hfw4 hzw4)
  (try simp only [Tn.eta, Sp.eta, Fa.eta, hka, Option.isSome_some, Option.isSome_none, Option.getD_some, Option.getD_none, if_true, Bool.false_eq_true, if_false])
  go_wp2_with fail
  refine (r_meet_c' _ _ _ _ _).mono ?_
  rintro e w5 ⟨rfl, hbw5⟩
  obtain ⟨hcw5, hfw5, hzw5⟩ := bcell hbw5
  (try simp only [World.size_alloc, World.size_setCell, World.size_drew] at hcw5 hfw5 hzw5)
  (try simp only [Tn.eta, Sp.eta, Fa.eta, hm, Option.isSome_some, Option.isSome_none, Option.getD_some, Option.getD_none, if_true, Bool.false_eq_true, if_false])
  go_wp2
  refine bodyPost_ret (results_2fa (fn := Try.f36) rfl _ _ (w.heap.size + 1 + 1) (w.heap.size + 1 + 1 + 1) Fa.zero Fa.zero false rfl rfl rfl (by simp (maxDischargeDepth := 12) [*, go_sem, ↓IntWalk.iteOmega, Fa.zero]) (by simp (maxDischargeDepth := 12) [*, go_sem, ↓IntWalk.iteOmega, Fa.zero]) (by simp (maxDischargeDepth := 12) [*, go_sem, ↓IntWalk.iteOmega, Fa.zero]) (by simp (maxDischargeDepth := 12) [*, go_sem, ↓IntWalk.iteOmega, Fa.zero]) (by simp (maxDischargeDepth := 12) [*, go_sem, ↓IntWalk.iteOmega, Fa.zero]) (by simp (maxDischargeDepth := 12) [*, go_sem, ↓IntWalk.iteOmega, Fa.zero]) (by simp (maxDischargeDepth := 12) [*, go_sem, ↓IntWalk.iteOmega, Fa.zero]) (by simp (maxDischargeDepth := 12) [*, go_sem, ↓IntWalk.iteOmega, Fa.zero])) rfl ⟨rfl, (by repeat' (first | (with_reducible exact Below.refl _ _) | (with_reducible assumption) | (with_reducible refine Below.alloc ?_ ?_ _) | (with_reducible refine Below.setCell ?_ ?_ _) | (with_reducible refine Below.drew ?_) | (with_reducible refine below_dn ?_ _) | (with_reducible refine Below.trans ?_ (Below.mono (by assumption) ?_)) | go_size))⟩

set_option maxHeartbeats 2000000 in
theorem rfif_mff (a b : Fa) (oa : Fa.ok a = true) (ob : Fa.ok b = true) (hka : Fa.known a = none) (hl1 : decide (4294967296#64 ≤ a.s.hi) = false) (hl2 : decide (4294967296#64 ≤ b.s.hi) = false) (hm : Tn.meetOk a.t b.t = false) (w : World) : Calls Try.prog 36 #[.int .u8 16, .bool false, .agg #[.int .u64 (N a.t.v), .int .u64 (N a.t.m), .int .u64 (N a.s.lo), .int .u64 (N a.s.hi)], .agg #[.int .u64 (N b.t.v), .int .u64 (N b.t.m), .int .u64 (N b.s.lo), .int .u64 (N b.s.hi)]] w fun e w' => e = .returned (.tuple #[.agg #[.int .u64 (N (((Fa.if_ 16 false a b).getD (Fa.zero, Fa.zero)).1).t.v), .int .u64 (N (((Fa.if_ 16 false a b).getD (Fa.zero, Fa.zero)).1).t.m), .int .u64 (N (((Fa.if_ 16 false a b).getD (Fa.zero, Fa.zero)).1).s.lo), .int .u64 (N (((Fa.if_ 16 false a b).getD (Fa.zero, Fa.zero)).1).s.hi)], .agg #[.int .u64 (N (((Fa.if_ 16 false a b).getD (Fa.zero, Fa.zero)).2).t.v), .int .u64 (N (((Fa.if_ 16 false a b).getD (Fa.zero, Fa.zero)).2).t.m), .int .u64 (N (((Fa.if_ 16 false a b).getD (Fa.zero, Fa.zero)).2).s.lo), .int .u64 (N (((Fa.if_ 16 false a b).getD (Fa.zero, Fa.zero)).2).s.hi)], .bool (Fa.if_ 16 false a b).isSome]) ∧ Below w.heap.size w w' := by
  have hE : Fa.if_ 16 false a b = none := by rw [Fa.if_k oa ob (.inl hka), Fa.if_lo (.inr (by rw [Fa.hi_ref, hl1, hl2]; rfl)), if_pos rfl, hm]; rfl
  rw [hE]
  clear hE
  go_enter Try.func36, Try.ntmps36
  go_wp2_with fail
  refine (rfright_c' _ _ _ _ _).mono ?_
  rintro e w1 ⟨rfl, hbw1⟩
  obtain ⟨hcw1, hfw1, hzw1⟩ := bcell hbw1
  (try simp only [World.size_alloc, World.size_setCell, World.size_drew] at hcw1 hfw1 hzw1)
  (try simp only [Tn.eta, Sp.eta, Fa.eta, oa, Option.isSome_some, Option.isSome_none, Option.getD_some, Option.getD_none, if_true, Bool.false_eq_true, if_false])
  go_wp2_with fail
  refine (rfright_c' _ _ _ _ _).mono ?_
  rintro e w2 ⟨rfl, hbw2⟩
  obtain ⟨hcw2, hfw2, hzw2⟩ := bcell hbw2
  (try simp only [World.size_alloc, World.size_setCell, World.size_drew] at hcw2 hfw2 hzw2)
  (try simp only [Tn.eta, Sp.eta, Fa.eta, ob, Option.isSome_some, Option.isSome_none, Option.getD_some, Option.getD_none, if_true, Bool.false_eq_true, if_false])
  go_wp2_with fail
  refine (rfknown_c' _ _ _ _ _).mono ?_
  rintro e w3 ⟨rfl, hbw3⟩
  obtain ⟨hcw3, hfw3, hzw3⟩ := bcell hbw3
  (try simp only [World.size_alloc, World.size_setCell, World.size_drew] at hcw3 hfw3 hzw3)
  (try simp only [Tn.eta, Sp.eta, Fa.eta, hka, Option.isSome_some, Option.isSome_none, Option.getD_some, Option.getD_none, if_true, Bool.false_eq_true, if_false])
  go_wp2_with fail
  refine (rfknown_c' _ _ _ _ _).mono ?_
  rintro e w4 ⟨rfl, hbw4⟩
  obtain ⟨hcw4, hfw4, hzw4⟩ := bcell hbw4
  (try simp only [World.size_alloc, World.size_setCell, World.size_drew] at hcw4 hfw4 hzw4)
  (try simp only [Tn.eta, Sp.eta, Fa.eta, hka, Option.isSome_some, Option.isSome_none, Option.getD_some, Option.getD_none, if_true, Bool.false_eq_true, if_false])
  go_wp2_with fail
  refine (r_meet_c' _ _ _ _ _).mono ?_
  rintro e w5 ⟨rfl, hbw5⟩
  obtain ⟨hcw5, hfw5, hzw5⟩ := bcell hbw5
  (try simp only [World.size_alloc, World.size_setCell, World.size_drew] at hcw5 hfw5 hzw5)
  (try simp only [Tn.eta, Sp.eta, Fa.eta, hm, Option.isSome_some, Option.isSome_none, Option.getD_some, Option.getD_none, if_true, Bool.false_eq_true, if_false])
  go_wp2
  refine bodyPost_ret (results_2fa (fn := Try.f36) rfl _ _ (w.heap.size + 1 + 1) (w.heap.size + 1 + 1 + 1) Fa.zero Fa.zero false rfl rfl rfl (by simp (maxDischargeDepth := 12) [*, go_sem, ↓IntWalk.iteOmega, Fa.zero]) (by simp (maxDischargeDepth := 12) [*, go_sem, ↓IntWalk.iteOmega, Fa.zero]) (by simp (maxDischargeDepth := 12) [*, go_sem, ↓IntWalk.iteOmega, Fa.zero]) (by simp (maxDischargeDepth := 12) [*, go_sem, ↓IntWalk.iteOmega, Fa.zero]) (by simp (maxDischargeDepth := 12) [*, go_sem, ↓IntWalk.iteOmega, Fa.zero]) (by simp (maxDischargeDepth := 12) [*, go_sem, ↓IntWalk.iteOmega, Fa.zero]) (by simp (maxDischargeDepth := 12) [*, go_sem, ↓IntWalk.iteOmega, Fa.zero]) (by simp (maxDischargeDepth := 12) [*, go_sem, ↓IntWalk.iteOmega, Fa.zero])) rfl ⟨rfl, (by repeat' (first | (with_reducible exact Below.refl _ _) | (with_reducible assumption) | (with_reducible refine Below.alloc ?_ ?_ _) | (with_reducible refine Below.setCell ?_ ?_ _) | (with_reducible refine Below.drew ?_) | (with_reducible refine below_dn ?_ _) | (with_reducible refine Below.trans ?_ (Below.mono (by assumption) ?_)) | go_size))⟩

set_option maxHeartbeats 2000000 in
theorem rfif_mtt (a b : Fa) (oa : Fa.ok a = true) (ob : Fa.ok b = true) (p : BitVec 64) (hka : Fa.known a = some p) (hkb : Fa.known b = none) (hm : Tn.meetOk a.t b.t = false) (w : World) : Calls Try.prog 36 #[.int .u8 16, .bool true, .agg #[.int .u64 (N a.t.v), .int .u64 (N a.t.m), .int .u64 (N a.s.lo), .int .u64 (N a.s.hi)], .agg #[.int .u64 (N b.t.v), .int .u64 (N b.t.m), .int .u64 (N b.s.lo), .int .u64 (N b.s.hi)]] w fun e w' => e = .returned (.tuple #[.agg #[.int .u64 (N (((Fa.if_ 16 true a b).getD (Fa.zero, Fa.zero)).1).t.v), .int .u64 (N (((Fa.if_ 16 true a b).getD (Fa.zero, Fa.zero)).1).t.m), .int .u64 (N (((Fa.if_ 16 true a b).getD (Fa.zero, Fa.zero)).1).s.lo), .int .u64 (N (((Fa.if_ 16 true a b).getD (Fa.zero, Fa.zero)).1).s.hi)], .agg #[.int .u64 (N (((Fa.if_ 16 true a b).getD (Fa.zero, Fa.zero)).2).t.v), .int .u64 (N (((Fa.if_ 16 true a b).getD (Fa.zero, Fa.zero)).2).t.m), .int .u64 (N (((Fa.if_ 16 true a b).getD (Fa.zero, Fa.zero)).2).s.lo), .int .u64 (N (((Fa.if_ 16 true a b).getD (Fa.zero, Fa.zero)).2).s.hi)], .bool (Fa.if_ 16 true a b).isSome]) ∧ Below w.heap.size w w' := by
  have hE : Fa.if_ 16 true a b = none := by rw [Fa.if_k oa ob (.inr hkb), Fa.if_lo (.inl rfl), if_pos rfl, hm]; rfl
  rw [hE]
  clear hE
  go_enter Try.func36, Try.ntmps36
  go_wp2_with fail
  refine (rfright_c' _ _ _ _ _).mono ?_
  rintro e w1 ⟨rfl, hbw1⟩
  obtain ⟨hcw1, hfw1, hzw1⟩ := bcell hbw1
  (try simp only [World.size_alloc, World.size_setCell, World.size_drew] at hcw1 hfw1 hzw1)
  (try simp only [Tn.eta, Sp.eta, Fa.eta, oa, Option.isSome_some, Option.isSome_none, Option.getD_some, Option.getD_none, if_true, Bool.false_eq_true, if_false])
  go_wp2_with fail
  refine (rfright_c' _ _ _ _ _).mono ?_
  rintro e w2 ⟨rfl, hbw2⟩
  obtain ⟨hcw2, hfw2, hzw2⟩ := bcell hbw2
  (try simp only [World.size_alloc, World.size_setCell, World.size_drew] at hcw2 hfw2 hzw2)
  (try simp only [Tn.eta, Sp.eta, Fa.eta, ob, Option.isSome_some, Option.isSome_none, Option.getD_some, Option.getD_none, if_true, Bool.false_eq_true, if_false])
  go_wp2_with fail
  refine (rfknown_c' _ _ _ _ _).mono ?_
  rintro e w3 ⟨rfl, hbw3⟩
  obtain ⟨hcw3, hfw3, hzw3⟩ := bcell hbw3
  (try simp only [World.size_alloc, World.size_setCell, World.size_drew] at hcw3 hfw3 hzw3)
  (try simp only [Tn.eta, Sp.eta, Fa.eta, hka, Option.isSome_some, Option.isSome_none, Option.getD_some, Option.getD_none, if_true, Bool.false_eq_true, if_false])
  go_wp2_with fail
  refine (rfknown_c' _ _ _ _ _).mono ?_
  rintro e w4 ⟨rfl, hbw4⟩
  obtain ⟨hcw4, hfw4, hzw4⟩ := bcell hbw4
  (try simp only [World.size_alloc, World.size_setCell, World.size_drew] at hcw4 hfw4 hzw4)
  (try simp only [Tn.eta, Sp.eta, Fa.eta, hkb, Option.isSome_some, Option.isSome_none, Option.getD_some, Option.getD_none, if_true, Bool.false_eq_true, if_false])
  go_wp2_with fail
  refine (r_meet_c' _ _ _ _ _).mono ?_
  rintro e w5 ⟨rfl, hbw5⟩
  obtain ⟨hcw5, hfw5, hzw5⟩ := bcell hbw5
  (try simp only [World.size_alloc, World.size_setCell, World.size_drew] at hcw5 hfw5 hzw5)
  (try simp only [Tn.eta, Sp.eta, Fa.eta, hm, Option.isSome_some, Option.isSome_none, Option.getD_some, Option.getD_none, if_true, Bool.false_eq_true, if_false])
  go_wp2
  refine bodyPost_ret (results_2fa (fn := Try.f36) rfl _ _ (w.heap.size + 1 + 1) (w.heap.size + 1 + 1 + 1) Fa.zero Fa.zero false rfl rfl rfl (by simp (maxDischargeDepth := 12) [*, go_sem, ↓IntWalk.iteOmega, Fa.zero]) (by simp (maxDischargeDepth := 12) [*, go_sem, ↓IntWalk.iteOmega, Fa.zero]) (by simp (maxDischargeDepth := 12) [*, go_sem, ↓IntWalk.iteOmega, Fa.zero]) (by simp (maxDischargeDepth := 12) [*, go_sem, ↓IntWalk.iteOmega, Fa.zero]) (by simp (maxDischargeDepth := 12) [*, go_sem, ↓IntWalk.iteOmega, Fa.zero]) (by simp (maxDischargeDepth := 12) [*, go_sem, ↓IntWalk.iteOmega, Fa.zero]) (by simp (maxDischargeDepth := 12) [*, go_sem, ↓IntWalk.iteOmega, Fa.zero]) (by simp (maxDischargeDepth := 12) [*, go_sem, ↓IntWalk.iteOmega, Fa.zero])) rfl ⟨rfl, (by repeat' (first | (with_reducible exact Below.refl _ _) | (with_reducible assumption) | (with_reducible refine Below.alloc ?_ ?_ _) | (with_reducible refine Below.setCell ?_ ?_ _) | (with_reducible refine Below.drew ?_) | (with_reducible refine below_dn ?_ _) | (with_reducible refine Below.trans ?_ (Below.mono (by assumption) ?_)) | go_size))⟩

set_option maxHeartbeats 2000000 in
theorem rfif_mtf (a b : Fa) (oa : Fa.ok a = true) (ob : Fa.ok b = true) (p : BitVec 64) (hka : Fa.known a = some p) (hkb : Fa.known b = none) (hl1 : decide (4294967296#64 ≤ a.s.hi) = false) (hl2 : decide (4294967296#64 ≤ b.s.hi) = false) (hm : Tn.meetOk a.t b.t = false) (w : World) : Calls Try.prog 36 #[.int .u8 16, .bool false, .agg #[.int .u64 (N a.t.v), .int .u64 (N a.t.m), .int .u64 (N a.s.lo), .int .u64 (N a.s.hi)], .agg #[.int .u64 (N b.t.v), .int .u64 (N b.t.m), .int .u64 (N b.s.lo), .int .u64 (N b.s.hi)]] w fun e w' => e = .returned (.tuple #[.agg #[.int .u64 (N (((Fa.if_ 16 false a b).getD (Fa.zero, Fa.zero)).1).t.v), .int .u64 (N (((Fa.if_ 16 false a b).getD (Fa.zero, Fa.zero)).1).t.m), .int .u64 (N (((Fa.if_ 16 false a b).getD (Fa.zero, Fa.zero)).1).s.lo), .int .u64 (N (((Fa.if_ 16 false a b).getD (Fa.zero, Fa.zero)).1).s.hi)], .agg #[.int .u64 (N (((Fa.if_ 16 false a b).getD (Fa.zero, Fa.zero)).2).t.v), .int .u64 (N (((Fa.if_ 16 false a b).getD (Fa.zero, Fa.zero)).2).t.m), .int .u64 (N (((Fa.if_ 16 false a b).getD (Fa.zero, Fa.zero)).2).s.lo), .int .u64 (N (((Fa.if_ 16 false a b).getD (Fa.zero, Fa.zero)).2).s.hi)], .bool (Fa.if_ 16 false a b).isSome]) ∧ Below w.heap.size w w' := by
  have hE : Fa.if_ 16 false a b = none := by rw [Fa.if_k oa ob (.inr hkb), Fa.if_lo (.inr (by rw [Fa.hi_ref, hl1, hl2]; rfl)), if_pos rfl, hm]; rfl
  rw [hE]
  clear hE
  go_enter Try.func36, Try.ntmps36
  go_wp2_with fail
  refine (rfright_c' _ _ _ _ _).mono ?_
  rintro e w1 ⟨rfl, hbw1⟩
  obtain ⟨hcw1, hfw1, hzw1⟩ := bcell hbw1
  (try simp only [World.size_alloc, World.size_setCell, World.size_drew] at hcw1 hfw1 hzw1)
  (try simp only [Tn.eta, Sp.eta, Fa.eta, oa, Option.isSome_some, Option.isSome_none, Option.getD_some, Option.getD_none, if_true, Bool.false_eq_true, if_false])
  go_wp2_with fail
  refine (rfright_c' _ _ _ _ _).mono ?_
  rintro e w2 ⟨rfl, hbw2⟩
  obtain ⟨hcw2, hfw2, hzw2⟩ := bcell hbw2
  (try simp only [World.size_alloc, World.size_setCell, World.size_drew] at hcw2 hfw2 hzw2)
  (try simp only [Tn.eta, Sp.eta, Fa.eta, ob, Option.isSome_some, Option.isSome_none, Option.getD_some, Option.getD_none, if_true, Bool.false_eq_true, if_false])
  go_wp2_with fail
  refine (rfknown_c' _ _ _ _ _).mono ?_
  rintro e w3 ⟨rfl, hbw3⟩
  obtain ⟨hcw3, hfw3, hzw3⟩ := bcell hbw3
  (try simp only [World.size_alloc, World.size_setCell, World.size_drew] at hcw3 hfw3 hzw3)
  (try simp only [Tn.eta, Sp.eta, Fa.eta, hka, Option.isSome_some, Option.isSome_none, Option.getD_some, Option.getD_none, if_true, Bool.false_eq_true, if_false])
  go_wp2_with fail
  refine (rfknown_c' _ _ _ _ _).mono ?_
  rintro e w4 ⟨rfl, hbw4⟩
  obtain ⟨hcw4, hfw4, hzw4⟩ := bcell hbw4
  (try simp only [World.size_alloc, World.size_setCell, World.size_drew] at hcw4 hfw4 hzw4)
  (try simp only [Tn.eta, Sp.eta, Fa.eta, hkb, Option.isSome_some, Option.isSome_none, Option.getD_some, Option.getD_none, if_true, Bool.false_eq_true, if_false])
  go_wp2_with fail
  refine (r_meet_c' _ _ _ _ _).mono ?_
  rintro e w5 ⟨rfl, hbw5⟩
  obtain ⟨hcw5, hfw5, hzw5⟩ := bcell hbw5
  (try simp only [World.size_alloc, World.size_setCell, World.size_drew] at hcw5 hfw5 hzw5)
  (try simp only [Tn.eta, Sp.eta, Fa.eta, hm, Option.isSome_some, Option.isSome_none, Option.getD_some, Option.getD_none, if_true, Bool.false_eq_true, if_false])
  go_wp2
  refine bodyPost_ret (results_2fa (fn := Try.f36) rfl _ _ (w.heap.size + 1 + 1) (w.heap.size + 1 + 1 + 1) Fa.zero Fa.zero false rfl rfl rfl (by simp (maxDischargeDepth := 12) [*, go_sem, ↓IntWalk.iteOmega, Fa.zero]) (by simp (maxDischargeDepth := 12) [*, go_sem, ↓IntWalk.iteOmega, Fa.zero]) (by simp (maxDischargeDepth := 12) [*, go_sem, ↓IntWalk.iteOmega, Fa.zero]) (by simp (maxDischargeDepth := 12) [*, go_sem, ↓IntWalk.iteOmega, Fa.zero]) (by simp (maxDischargeDepth := 12) [*, go_sem, ↓IntWalk.iteOmega, Fa.zero]) (by simp (maxDischargeDepth := 12) [*, go_sem, ↓IntWalk.iteOmega, Fa.zero]) (by simp (maxDischargeDepth := 12) [*, go_sem, ↓IntWalk.iteOmega, Fa.zero]) (by simp (maxDischargeDepth := 12) [*, go_sem, ↓IntWalk.iteOmega, Fa.zero])) rfl ⟨rfl, (by repeat' (first | (with_reducible exact Below.refl _ _) | (with_reducible assumption) | (with_reducible refine Below.alloc ?_ ?_ _) | (with_reducible refine Below.setCell ?_ ?_ _) | (with_reducible refine Below.drew ?_) | (with_reducible refine below_dn ?_ _) | (with_reducible refine Below.trans ?_ (Below.mono (by assumption) ?_)) | go_size))⟩

end Hk
