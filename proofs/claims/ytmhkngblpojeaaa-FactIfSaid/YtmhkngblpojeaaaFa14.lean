/- Package fact: If; old memory is as it was. No condition but those in each statement. -/
import Derived.Test.YtmhkngblpojeaaaProg
import Derived.Test.YtmhkngblpojeaaaGp
import Derived.Test.YtmhkngblpojeaaaFaIf
import Derived.Test.YtmhkngblpojeaaaGm
import Derived.Test.YtmhkngblpojeaaaFa13
import Derived.Test.YtmhkngblpojeaaaGd
import Derived.Test.YtmhkngblpojeaaaGt
import Derived.Test.YtmhkngblpojeaaaGl
namespace Hk
open Go Go.RowKit Go.Proofs
set_option linter.unusedSimpArgs false
set_option linter.unusedVariables false
set_option maxRecDepth 100000
attribute [go_sem] Tn.eta
attribute [go_sem] Cond.val_some Cond.err_some Cond.val_none Cond.err_none
set_option maxHeartbeats 2000000 in
theorem fif_n1 (op : Int) (wd : Bool) (a b : Fa) (oa : Fa.ok a = false) (w : World) : Calls Try.prog 35 #[.int .u8 op, .bool wd, .agg #[.int .u64 (N a.t.v), .int .u64 (N a.t.m), .int .u64 (N a.s.lo), .int .u64 (N a.s.hi)], .agg #[.int .u64 (N b.t.v), .int .u64 (N b.t.m), .int .u64 (N b.s.lo), .int .u64 (N b.s.hi)]] w fun e w' => e = .returned (.tuple #[.agg #[.int .u64 (N (((Fa.if_ op wd a b).getD (Fa.zero, Fa.zero)).1).t.v), .int .u64 (N (((Fa.if_ op wd a b).getD (Fa.zero, Fa.zero)).1).t.m), .int .u64 (N (((Fa.if_ op wd a b).getD (Fa.zero, Fa.zero)).1).s.lo), .int .u64 (N (((Fa.if_ op wd a b).getD (Fa.zero, Fa.zero)).1).s.hi)], .agg #[.int .u64 (N (((Fa.if_ op wd a b).getD (Fa.zero, Fa.zero)).2).t.v), .int .u64 (N (((Fa.if_ op wd a b).getD (Fa.zero, Fa.zero)).2).t.m), .int .u64 (N (((Fa.if_ op wd a b).getD (Fa.zero, Fa.zero)).2).s.lo), .int .u64 (N (((Fa.if_ op wd a b).getD (Fa.zero, Fa.zero)).2).s.hi)], .bool (Fa.if_ op wd a b).isSome]) ∧ Below w.heap.size w w' := by
  have hE : Fa.if_ op wd a b = none := Fa.if_n1 oa
  rw [hE]
  clear hE
  go_enter Try.func35, Try.ntmps35
  go_wp2_with fail
  refine (fright_c' _ _ _ _ _).mono ?_
  rintro e w1 ⟨rfl, hbw1⟩
  obtain ⟨hcw1, hfw1, hzw1⟩ := bcell hbw1
  (try simp only [World.size_alloc, World.size_setCell, World.size_drew] at hcw1 hfw1 hzw1)
  (try simp only [Tn.eta, Sp.eta, Fa.eta, oa, Option.isSome_some, Option.isSome_none, Option.getD_some, Option.getD_none, if_true, Bool.false_eq_true, if_false])
  go_wp2_with fail
  go_region
  (try go_wp2)
  refine bodyPost_ret (results_2fa (fn := Try.f35) rfl _ _ (w.heap.size + 1 + 1) (w.heap.size + 1 + 1 + 1) Fa.zero Fa.zero false rfl rfl rfl (by simp (maxDischargeDepth := 12) [*, go_sem, ↓IntWalk.iteOmega, Fa.zero]) (by simp (maxDischargeDepth := 12) [*, go_sem, ↓IntWalk.iteOmega, Fa.zero]) (by simp (maxDischargeDepth := 12) [*, go_sem, ↓IntWalk.iteOmega, Fa.zero]) (by simp (maxDischargeDepth := 12) [*, go_sem, ↓IntWalk.iteOmega, Fa.zero]) (by simp (maxDischargeDepth := 12) [*, go_sem, ↓IntWalk.iteOmega, Fa.zero]) (by simp (maxDischargeDepth := 12) [*, go_sem, ↓IntWalk.iteOmega, Fa.zero]) (by simp (maxDischargeDepth := 12) [*, go_sem, ↓IntWalk.iteOmega, Fa.zero]) (by simp (maxDischargeDepth := 12) [*, go_sem, ↓IntWalk.iteOmega, Fa.zero])) rfl ⟨rfl, (by repeat' (first | (with_reducible exact Below.refl _ _) | (with_reducible assumption) | (with_reducible refine Below.alloc ?_ ?_ _) | (with_reducible refine Below.setCell ?_ ?_ _) | (with_reducible refine Below.drew ?_) | (with_reducible refine below_dn ?_ _) | (with_reducible refine Below.trans ?_ (Below.mono (by assumption) ?_)) | go_size))⟩

set_option maxHeartbeats 2000000 in
theorem fif_n2 (op : Int) (wd : Bool) (a b : Fa) (oa : Fa.ok a = true) (ob : Fa.ok b = false) (w : World) : Calls Try.prog 35 #[.int .u8 op, .bool wd, .agg #[.int .u64 (N a.t.v), .int .u64 (N a.t.m), .int .u64 (N a.s.lo), .int .u64 (N a.s.hi)], .agg #[.int .u64 (N b.t.v), .int .u64 (N b.t.m), .int .u64 (N b.s.lo), .int .u64 (N b.s.hi)]] w fun e w' => e = .returned (.tuple #[.agg #[.int .u64 (N (((Fa.if_ op wd a b).getD (Fa.zero, Fa.zero)).1).t.v), .int .u64 (N (((Fa.if_ op wd a b).getD (Fa.zero, Fa.zero)).1).t.m), .int .u64 (N (((Fa.if_ op wd a b).getD (Fa.zero, Fa.zero)).1).s.lo), .int .u64 (N (((Fa.if_ op wd a b).getD (Fa.zero, Fa.zero)).1).s.hi)], .agg #[.int .u64 (N (((Fa.if_ op wd a b).getD (Fa.zero, Fa.zero)).2).t.v), .int .u64 (N (((Fa.if_ op wd a b).getD (Fa.zero, Fa.zero)).2).t.m), .int .u64 (N (((Fa.if_ op wd a b).getD (Fa.zero, Fa.zero)).2).s.lo), .int .u64 (N (((Fa.if_ op wd a b).getD (Fa.zero, Fa.zero)).2).s.hi)], .bool (Fa.if_ op wd a b).isSome]) ∧ Below w.heap.size w w' := by
  have hE : Fa.if_ op wd a b = none := Fa.if_n2 oa ob
  rw [hE]
  clear hE
  go_enter Try.func35, Try.ntmps35
  go_wp2_with fail
  refine (fright_c' _ _ _ _ _).mono ?_
  rintro e w1 ⟨rfl, hbw1⟩
  obtain ⟨hcw1, hfw1, hzw1⟩ := bcell hbw1
  (try simp only [World.size_alloc, World.size_setCell, World.size_drew] at hcw1 hfw1 hzw1)
  (try simp only [Tn.eta, Sp.eta, Fa.eta, oa, Option.isSome_some, Option.isSome_none, Option.getD_some, Option.getD_none, if_true, Bool.false_eq_true, if_false])
  go_wp2_with fail
  refine (fright_c' _ _ _ _ _).mono ?_
  rintro e w2 ⟨rfl, hbw2⟩
  obtain ⟨hcw2, hfw2, hzw2⟩ := bcell hbw2
  (try simp only [World.size_alloc, World.size_setCell, World.size_drew] at hcw2 hfw2 hzw2)
  (try simp only [Tn.eta, Sp.eta, Fa.eta, ob, Option.isSome_some, Option.isSome_none, Option.getD_some, Option.getD_none, if_true, Bool.false_eq_true, if_false])
  go_wp2_with fail
  go_region
  (try go_wp2)
  refine bodyPost_ret (results_2fa (fn := Try.f35) rfl _ _ (w.heap.size + 1 + 1) (w.heap.size + 1 + 1 + 1) Fa.zero Fa.zero false rfl rfl rfl (by simp (maxDischargeDepth := 12) [*, go_sem, ↓IntWalk.iteOmega, Fa.zero]) (by simp (maxDischargeDepth := 12) [*, go_sem, ↓IntWalk.iteOmega, Fa.zero]) (by simp (maxDischargeDepth := 12) [*, go_sem, ↓IntWalk.iteOmega, Fa.zero]) (by simp (maxDischargeDepth := 12) [*, go_sem, ↓IntWalk.iteOmega, Fa.zero]) (by simp (maxDischargeDepth := 12) [*, go_sem, ↓IntWalk.iteOmega, Fa.zero]) (by simp (maxDischargeDepth := 12) [*, go_sem, ↓IntWalk.iteOmega, Fa.zero]) (by simp (maxDischargeDepth := 12) [*, go_sem, ↓IntWalk.iteOmega, Fa.zero]) (by simp (maxDischargeDepth := 12) [*, go_sem, ↓IntWalk.iteOmega, Fa.zero])) rfl ⟨rfl, (by repeat' (first | (with_reducible exact Below.refl _ _) | (with_reducible assumption) | (with_reducible refine Below.alloc ?_ ?_ _) | (with_reducible refine Below.setCell ?_ ?_ _) | (with_reducible refine Below.drew ?_) | (with_reducible refine below_dn ?_ _) | (with_reducible refine Below.trans ?_ (Below.mono (by assumption) ?_)) | go_size))⟩

set_option maxHeartbeats 2000000 in
theorem fif_kn (op : Int) (wd : Bool) (a b : Fa) (oa : Fa.ok a = true) (ob : Fa.ok b = true) (p q : BitVec 64) (hka : Fa.known a = some p) (hkb : Fa.known b = some q) (hc : Cond.is op wd p q = none) (w : World) : Calls Try.prog 35 #[.int .u8 op, .bool wd, .agg #[.int .u64 (N a.t.v), .int .u64 (N a.t.m), .int .u64 (N a.s.lo), .int .u64 (N a.s.hi)], .agg #[.int .u64 (N b.t.v), .int .u64 (N b.t.m), .int .u64 (N b.s.lo), .int .u64 (N b.s.hi)]] w fun e w' => e = .returned (.tuple #[.agg #[.int .u64 (N (((Fa.if_ op wd a b).getD (Fa.zero, Fa.zero)).1).t.v), .int .u64 (N (((Fa.if_ op wd a b).getD (Fa.zero, Fa.zero)).1).t.m), .int .u64 (N (((Fa.if_ op wd a b).getD (Fa.zero, Fa.zero)).1).s.lo), .int .u64 (N (((Fa.if_ op wd a b).getD (Fa.zero, Fa.zero)).1).s.hi)], .agg #[.int .u64 (N (((Fa.if_ op wd a b).getD (Fa.zero, Fa.zero)).2).t.v), .int .u64 (N (((Fa.if_ op wd a b).getD (Fa.zero, Fa.zero)).2).t.m), .int .u64 (N (((Fa.if_ op wd a b).getD (Fa.zero, Fa.zero)).2).s.lo), .int .u64 (N (((Fa.if_ op wd a b).getD (Fa.zero, Fa.zero)).2).s.hi)], .bool (Fa.if_ op wd a b).isSome]) ∧ Below w.heap.size w w' := by
  have hE : Fa.if_ op wd a b = none := by rw [Fa.if_kk oa ob hka hkb, hc]; rfl
  rw [hE]
  clear hE
  go_enter Try.func35, Try.ntmps35
  go_wp2_with fail
  refine (fright_c' _ _ _ _ _).mono ?_
  rintro e w1 ⟨rfl, hbw1⟩
  obtain ⟨hcw1, hfw1, hzw1⟩ := bcell hbw1
  (try simp only [World.size_alloc, World.size_setCell, World.size_drew] at hcw1 hfw1 hzw1)
  (try simp only [Tn.eta, Sp.eta, Fa.eta, oa, Option.isSome_some, Option.isSome_none, Option.getD_some, Option.getD_none, if_true, Bool.false_eq_true, if_false])
  go_wp2_with fail
  refine (fright_c' _ _ _ _ _).mono ?_
  rintro e w2 ⟨rfl, hbw2⟩
  obtain ⟨hcw2, hfw2, hzw2⟩ := bcell hbw2
  (try simp only [World.size_alloc, World.size_setCell, World.size_drew] at hcw2 hfw2 hzw2)
  (try simp only [Tn.eta, Sp.eta, Fa.eta, ob, Option.isSome_some, Option.isSome_none, Option.getD_some, Option.getD_none, if_true, Bool.false_eq_true, if_false])
  go_wp2_with fail
  refine (fknown_c' _ _ _ _ _).mono ?_
  rintro e w3 ⟨rfl, hbw3⟩
  obtain ⟨hcw3, hfw3, hzw3⟩ := bcell hbw3
  (try simp only [World.size_alloc, World.size_setCell, World.size_drew] at hcw3 hfw3 hzw3)
  (try simp only [Tn.eta, Sp.eta, Fa.eta, hka, Option.isSome_some, Option.isSome_none, Option.getD_some, Option.getD_none, if_true, Bool.false_eq_true, if_false])
  go_wp2_with fail
  refine (fknown_c' _ _ _ _ _).mono ?_
  rintro e w4 ⟨rfl, hbw4⟩
  obtain ⟨hcw4, hfw4, hzw4⟩ := bcell hbw4
  (try simp only [World.size_alloc, World.size_setCell, World.size_drew] at hcw4 hfw4 hzw4)
  (try simp only [Tn.eta, Sp.eta, Fa.eta, hkb, Option.isSome_some, Option.isSome_none, Option.getD_some, Option.getD_none, if_true, Bool.false_eq_true, if_false])
  go_wp2_with fail
  refine (cis_c _ _ _ _ _).mono ?_
  rintro e wT ⟨rfl, rfl⟩
  (try simp only [Tn.eta, Sp.eta, Fa.eta, hc, Cond.val_some, Cond.err_some, Cond.val_none, Cond.err_none, Option.isSome_some, Option.isSome_none, Option.getD_some, Option.getD_none, if_true, Bool.false_eq_true, if_false])
  go_wp2_with fail
  go_region
  (try go_wp2)
  refine bodyPost_ret (results_2fa (fn := Try.f35) rfl _ _ (w.heap.size + 1 + 1) (w.heap.size + 1 + 1 + 1) Fa.zero Fa.zero false rfl rfl rfl (by simp (maxDischargeDepth := 12) [*, go_sem, ↓IntWalk.iteOmega, Fa.zero]) (by simp (maxDischargeDepth := 12) [*, go_sem, ↓IntWalk.iteOmega, Fa.zero]) (by simp (maxDischargeDepth := 12) [*, go_sem, ↓IntWalk.iteOmega, Fa.zero]) (by simp (maxDischargeDepth := 12) [*, go_sem, ↓IntWalk.iteOmega, Fa.zero]) (by simp (maxDischargeDepth := 12) [*, go_sem, ↓IntWalk.iteOmega, Fa.zero]) (by simp (maxDischargeDepth := 12) [*, go_sem, ↓IntWalk.iteOmega, Fa.zero]) (by simp (maxDischargeDepth := 12) [*, go_sem, ↓IntWalk.iteOmega, Fa.zero]) (by simp (maxDischargeDepth := 12) [*, go_sem, ↓IntWalk.iteOmega, Fa.zero])) rfl ⟨rfl, (by repeat' (first | (with_reducible exact Below.refl _ _) | (with_reducible assumption) | (with_reducible refine Below.alloc ?_ ?_ _) | (with_reducible refine Below.setCell ?_ ?_ _) | (with_reducible refine Below.drew ?_) | (with_reducible refine below_dn ?_ _) | (with_reducible refine Below.trans ?_ (Below.mono (by assumption) ?_)) | go_size))⟩

set_option maxHeartbeats 2000000 in
theorem fif_kf (op : Int) (wd : Bool) (a b : Fa) (oa : Fa.ok a = true) (ob : Fa.ok b = true) (p q : BitVec 64) (hka : Fa.known a = some p) (hkb : Fa.known b = some q) (hc : Cond.is op wd p q = some false) (w : World) : Calls Try.prog 35 #[.int .u8 op, .bool wd, .agg #[.int .u64 (N a.t.v), .int .u64 (N a.t.m), .int .u64 (N a.s.lo), .int .u64 (N a.s.hi)], .agg #[.int .u64 (N b.t.v), .int .u64 (N b.t.m), .int .u64 (N b.s.lo), .int .u64 (N b.s.hi)]] w fun e w' => e = .returned (.tuple #[.agg #[.int .u64 (N (((Fa.if_ op wd a b).getD (Fa.zero, Fa.zero)).1).t.v), .int .u64 (N (((Fa.if_ op wd a b).getD (Fa.zero, Fa.zero)).1).t.m), .int .u64 (N (((Fa.if_ op wd a b).getD (Fa.zero, Fa.zero)).1).s.lo), .int .u64 (N (((Fa.if_ op wd a b).getD (Fa.zero, Fa.zero)).1).s.hi)], .agg #[.int .u64 (N (((Fa.if_ op wd a b).getD (Fa.zero, Fa.zero)).2).t.v), .int .u64 (N (((Fa.if_ op wd a b).getD (Fa.zero, Fa.zero)).2).t.m), .int .u64 (N (((Fa.if_ op wd a b).getD (Fa.zero, Fa.zero)).2).s.lo), .int .u64 (N (((Fa.if_ op wd a b).getD (Fa.zero, Fa.zero)).2).s.hi)], .bool (Fa.if_ op wd a b).isSome]) ∧ Below w.heap.size w w' := by
  have hE : Fa.if_ op wd a b = none := by rw [Fa.if_kk oa ob hka hkb, hc]; rfl
  rw [hE]
  clear hE
  go_enter Try.func35, Try.ntmps35
  go_wp2_with fail
  refine (fright_c' _ _ _ _ _).mono ?_
  rintro e w1 ⟨rfl, hbw1⟩
  obtain ⟨hcw1, hfw1, hzw1⟩ := bcell hbw1
  (try simp only [World.size_alloc, World.size_setCell, World.size_drew] at hcw1 hfw1 hzw1)
  (try simp only [Tn.eta, Sp.eta, Fa.eta, oa, Option.isSome_some, Option.isSome_none, Option.getD_some, Option.getD_none, if_true, Bool.false_eq_true, if_false])
  go_wp2_with fail
  refine (fright_c' _ _ _ _ _).mono ?_
  rintro e w2 ⟨rfl, hbw2⟩
  obtain ⟨hcw2, hfw2, hzw2⟩ := bcell hbw2
  (try simp only [World.size_alloc, World.size_setCell, World.size_drew] at hcw2 hfw2 hzw2)
  (try simp only [Tn.eta, Sp.eta, Fa.eta, ob, Option.isSome_some, Option.isSome_none, Option.getD_some, Option.getD_none, if_true, Bool.false_eq_true, if_false])
  go_wp2_with fail
  refine (fknown_c' _ _ _ _ _).mono ?_
  rintro e w3 ⟨rfl, hbw3⟩
  obtain ⟨hcw3, hfw3, hzw3⟩ := bcell hbw3
  (try simp only [World.size_alloc, World.size_setCell, World.size_drew] at hcw3 hfw3 hzw3)
  (try simp only [Tn.eta, Sp.eta, Fa.eta, hka, Option.isSome_some, Option.isSome_none, Option.getD_some, Option.getD_none, if_true, Bool.false_eq_true, if_false])
  go_wp2_with fail
  refine (fknown_c' _ _ _ _ _).mono ?_
  rintro e w4 ⟨rfl, hbw4⟩
  obtain ⟨hcw4, hfw4, hzw4⟩ := bcell hbw4
  (try simp only [World.size_alloc, World.size_setCell, World.size_drew] at hcw4 hfw4 hzw4)
  (try simp only [Tn.eta, Sp.eta, Fa.eta, hkb, Option.isSome_some, Option.isSome_none, Option.getD_some, Option.getD_none, if_true, Bool.false_eq_true, if_false])
  go_wp2_with fail
  refine (cis_c _ _ _ _ _).mono ?_
  rintro e wT ⟨rfl, rfl⟩
  (try simp only [Tn.eta, Sp.eta, Fa.eta, hc, Cond.val_some, Cond.err_some, Cond.val_none, Cond.err_none, Option.isSome_some, Option.isSome_none, Option.getD_some, Option.getD_none, if_true, Bool.false_eq_true, if_false])
  go_wp2_with fail
  go_region
  (try go_wp2)
  refine bodyPost_ret (results_2fa (fn := Try.f35) rfl _ _ (w.heap.size + 1 + 1) (w.heap.size + 1 + 1 + 1) Fa.zero Fa.zero false rfl rfl rfl (by simp (maxDischargeDepth := 12) [*, go_sem, ↓IntWalk.iteOmega, Fa.zero]) (by simp (maxDischargeDepth := 12) [*, go_sem, ↓IntWalk.iteOmega, Fa.zero]) (by simp (maxDischargeDepth := 12) [*, go_sem, ↓IntWalk.iteOmega, Fa.zero]) (by simp (maxDischargeDepth := 12) [*, go_sem, ↓IntWalk.iteOmega, Fa.zero]) (by simp (maxDischargeDepth := 12) [*, go_sem, ↓IntWalk.iteOmega, Fa.zero]) (by simp (maxDischargeDepth := 12) [*, go_sem, ↓IntWalk.iteOmega, Fa.zero]) (by simp (maxDischargeDepth := 12) [*, go_sem, ↓IntWalk.iteOmega, Fa.zero]) (by simp (maxDischargeDepth := 12) [*, go_sem, ↓IntWalk.iteOmega, Fa.zero])) rfl ⟨rfl, (by repeat' (first | (with_reducible exact Below.refl _ _) | (with_reducible assumption) | (with_reducible refine Below.alloc ?_ ?_ _) | (with_reducible refine Below.setCell ?_ ?_ _) | (with_reducible refine Below.drew ?_) | (with_reducible refine below_dn ?_ _) | (with_reducible refine Below.trans ?_ (Below.mono (by assumption) ?_)) | go_size))⟩

set_option maxHeartbeats 2000000 in
theorem fif_kt (op : Int) (wd : Bool) (a b : Fa) (oa : Fa.ok a = true) (ob : Fa.ok b = true) (p q : BitVec 64) (hka : Fa.known a = some p) (hkb : Fa.known b = some q) (hc : Cond.is op wd p q = some true) (w : World) : Calls Try.prog 35 #[.int .u8 op, .bool wd, .agg #[.int .u64 (N a.t.v), .int .u64 (N a.t.m), .int .u64 (N a.s.lo), .int .u64 (N a.s.hi)], .agg #[.int .u64 (N b.t.v), .int .u64 (N b.t.m), .int .u64 (N b.s.lo), .int .u64 (N b.s.hi)]] w fun e w' => e = .returned (.tuple #[.agg #[.int .u64 (N (((Fa.if_ op wd a b).getD (Fa.zero, Fa.zero)).1).t.v), .int .u64 (N (((Fa.if_ op wd a b).getD (Fa.zero, Fa.zero)).1).t.m), .int .u64 (N (((Fa.if_ op wd a b).getD (Fa.zero, Fa.zero)).1).s.lo), .int .u64 (N (((Fa.if_ op wd a b).getD (Fa.zero, Fa.zero)).1).s.hi)], .agg #[.int .u64 (N (((Fa.if_ op wd a b).getD (Fa.zero, Fa.zero)).2).t.v), .int .u64 (N (((Fa.if_ op wd a b).getD (Fa.zero, Fa.zero)).2).t.m), .int .u64 (N (((Fa.if_ op wd a b).getD (Fa.zero, Fa.zero)).2).s.lo), .int .u64 (N (((Fa.if_ op wd a b).getD (Fa.zero, Fa.zero)).2).s.hi)], .bool (Fa.if_ op wd a b).isSome]) ∧ Below w.heap.size w w' := by
  have hE : Fa.if_ op wd a b = some (a, b) := by rw [Fa.if_kk oa ob hka hkb, hc]; rfl
  rw [hE]
  clear hE
  go_enter Try.func35, Try.ntmps35
  go_wp2_with fail
  refine (fright_c' _ _ _ _ _).mono ?_
  rintro e w1 ⟨rfl, hbw1⟩
  obtain ⟨hcw1, hfw1, hzw1⟩ := bcell hbw1
  (try simp only [World.size_alloc, World.size_setCell, World.size_drew] at hcw1 hfw1 hzw1)
  (try simp only [Tn.eta, Sp.eta, Fa.eta, oa, Option.isSome_some, Option.isSome_none, Option.getD_some, Option.getD_none, if_true, Bool.false_eq_true, if_false])
  go_wp2_with fail
  refine (fright_c' _ _ _ _ _).mono ?_
  rintro e w2 ⟨rfl, hbw2⟩
  obtain ⟨hcw2, hfw2, hzw2⟩ := bcell hbw2
  (try simp only [World.size_alloc, World.size_setCell, World.size_drew] at hcw2 hfw2 hzw2)
  (try simp only [Tn.eta, Sp.eta, Fa.eta, ob, Option.isSome_some, Option.isSome_none, Option.getD_some, Option.getD_none, if_true, Bool.false_eq_true, if_false])
  go_wp2_with fail
  refine (fknown_c' _ _ _ _ _).mono ?_
  rintro e w3 ⟨rfl, hbw3⟩
  obtain ⟨hcw3, hfw3, hzw3⟩ := bcell hbw3
  (try simp only [World.size_alloc, World.size_setCell, World.size_drew] at hcw3 hfw3 hzw3)
  (try simp only [Tn.eta, Sp.eta, Fa.eta, hka, Option.isSome_some, Option.isSome_none, Option.getD_some, Option.getD_none, if_true, Bool.false_eq_true, if_false])
  go_wp2_with fail
  refine (fknown_c' _ _ _ _ _).mono ?_
  rintro e w4 ⟨rfl, hbw4⟩
  obtain ⟨hcw4, hfw4, hzw4⟩ := bcell hbw4
  (try simp only [World.size_alloc, World.size_setCell, World.size_drew] at hcw4 hfw4 hzw4)
  (try simp only [Tn.eta, Sp.eta, Fa.eta, hkb, Option.isSome_some, Option.isSome_none, Option.getD_some, Option.getD_none, if_true, Bool.false_eq_true, if_false])
  go_wp2_with fail
  refine (cis_c _ _ _ _ _).mono ?_
  rintro e wT ⟨rfl, rfl⟩
  (try simp only [Tn.eta, Sp.eta, Fa.eta, hc, Cond.val_some, Cond.err_some, Cond.val_none, Cond.err_none, Option.isSome_some, Option.isSome_none, Option.getD_some, Option.getD_none, if_true, Bool.false_eq_true, if_false])
  go_wp2_with fail
  go_region
  (try go_wp2)
  refine bodyPost_ret (results_2fa (fn := Try.f35) rfl _ _ (w.heap.size + 1 + 1) (w.heap.size + 1 + 1 + 1) a b true rfl rfl rfl (by simp (maxDischargeDepth := 12) [*, go_sem, ↓IntWalk.iteOmega, Fa.zero]) (by simp (maxDischargeDepth := 12) [*, go_sem, ↓IntWalk.iteOmega, Fa.zero]) (by simp (maxDischargeDepth := 12) [*, go_sem, ↓IntWalk.iteOmega, Fa.zero]) (by simp (maxDischargeDepth := 12) [*, go_sem, ↓IntWalk.iteOmega, Fa.zero]) (by simp (maxDischargeDepth := 12) [*, go_sem, ↓IntWalk.iteOmega, Fa.zero]) (by simp (maxDischargeDepth := 12) [*, go_sem, ↓IntWalk.iteOmega, Fa.zero]) (by simp (maxDischargeDepth := 12) [*, go_sem, ↓IntWalk.iteOmega, Fa.zero]) (by simp (maxDischargeDepth := 12) [*, go_sem, ↓IntWalk.iteOmega, Fa.zero])) rfl ⟨rfl, (by repeat' (first | (with_reducible exact Below.refl _ _) | (with_reducible assumption) | (with_reducible refine Below.alloc ?_ ?_ _) | (with_reducible refine Below.setCell ?_ ?_ _) | (with_reducible refine Below.drew ?_) | (with_reducible refine below_dn ?_ _) | (with_reducible refine Below.trans ?_ (Below.mono (by assumption) ?_)) | go_size))⟩

set_option maxHeartbeats 2000000 in
theorem fif_hif (op : Int) (a b : Fa) (oa : Fa.ok a = true) (ob : Fa.ok b = true) (hka : Fa.known a = none) (hl : decide (4294967296#64 ≤ Sp.mx a.s.hi b.s.hi) = true) (w : World) : Calls Try.prog 35 #[.int .u8 op, .bool false, .agg #[.int .u64 (N a.t.v), .int .u64 (N a.t.m), .int .u64 (N a.s.lo), .int .u64 (N a.s.hi)], .agg #[.int .u64 (N b.t.v), .int .u64 (N b.t.m), .int .u64 (N b.s.lo), .int .u64 (N b.s.hi)]] w fun e w' => e = .returned (.tuple #[.agg #[.int .u64 (N (((Fa.if_ op false a b).getD (Fa.zero, Fa.zero)).1).t.v), .int .u64 (N (((Fa.if_ op false a b).getD (Fa.zero, Fa.zero)).1).t.m), .int .u64 (N (((Fa.if_ op false a b).getD (Fa.zero, Fa.zero)).1).s.lo), .int .u64 (N (((Fa.if_ op false a b).getD (Fa.zero, Fa.zero)).1).s.hi)], .agg #[.int .u64 (N (((Fa.if_ op false a b).getD (Fa.zero, Fa.zero)).2).t.v), .int .u64 (N (((Fa.if_ op false a b).getD (Fa.zero, Fa.zero)).2).t.m), .int .u64 (N (((Fa.if_ op false a b).getD (Fa.zero, Fa.zero)).2).s.lo), .int .u64 (N (((Fa.if_ op false a b).getD (Fa.zero, Fa.zero)).2).s.hi)], .bool (Fa.if_ op false a b).isSome]) ∧ Below w.heap.size w w' := by
  have hE : Fa.if_ op false a b = some (a, b) := by rw [Fa.if_k oa ob (.inl hka)]; exact Fa.if_hi hl
  rw [hE]
  clear hE
  go_enter Try.func35, Try.ntmps35
  go_wp2_with fail
  refine (fright_c' _ _ _ _ _).mono ?_
  rintro e w1 ⟨rfl, hbw1⟩
  obtain ⟨hcw1, hfw1, hzw1⟩ := bcell hbw1
  (try simp only [World.size_alloc, World.size_setCell, World.size_drew] at hcw1 hfw1 hzw1)
  (try simp only [Tn.eta, Sp.eta, Fa.eta, oa, Option.isSome_some, Option.isSome_none, Option.getD_some, Option.getD_none, if_true, Bool.false_eq_true, if_false])
  go_wp2_with fail
  refine (fright_c' _ _ _ _ _).mono ?_
  rintro e w2 ⟨rfl, hbw2⟩
  obtain ⟨hcw2, hfw2, hzw2⟩ := bcell hbw2
  (try simp only [World.size_alloc, World.size_setCell, World.size_drew] at hcw2 hfw2 hzw2)
  (try simp only [Tn.eta, Sp.eta, Fa.eta, ob, Option.isSome_some, Option.isSome_none, Option.getD_some, Option.getD_none, if_true, Bool.false_eq_true, if_false])
  go_wp2_with fail
  refine (fknown_c' _ _ _ _ _).mono ?_
  rintro e w3 ⟨rfl, hbw3⟩
  obtain ⟨hcw3, hfw3, hzw3⟩ := bcell hbw3
  (try simp only [World.size_alloc, World.size_setCell, World.size_drew] at hcw3 hfw3 hzw3)
  (try simp only [Tn.eta, Sp.eta, Fa.eta, hka, Option.isSome_some, Option.isSome_none, Option.getD_some, Option.getD_none, if_true, Bool.false_eq_true, if_false])
  go_wp2_with fail
  refine (fknown_c' _ _ _ _ _).mono ?_
  rintro e w4 ⟨rfl, hbw4⟩
  obtain ⟨hcw4, hfw4, hzw4⟩ := bcell hbw4
  (try simp only [World.size_alloc, World.size_setCell, World.size_drew] at hcw4 hfw4 hzw4)
  (try simp only [Tn.eta, Sp.eta, Fa.eta, hka, Option.isSome_some, Option.isSome_none, Option.getD_some, Option.getD_none, if_true, Bool.false_eq_true, if_false])
  go_wp2_with fail
  go_region
  (try go_wp2)
  refine bodyPost_ret (results_2fa (fn := Try.f35) rfl _ _ (w.heap.size + 1 + 1) (w.heap.size + 1 + 1 + 1) a b true rfl rfl rfl (by simp (maxDischargeDepth := 12) [*, go_sem, ↓IntWalk.iteOmega, Fa.zero]) (by simp (maxDischargeDepth := 12) [*, go_sem, ↓IntWalk.iteOmega, Fa.zero]) (by simp (maxDischargeDepth := 12) [*, go_sem, ↓IntWalk.iteOmega, Fa.zero]) (by simp (maxDischargeDepth := 12) [*, go_sem, ↓IntWalk.iteOmega, Fa.zero]) (by simp (maxDischargeDepth := 12) [*, go_sem, ↓IntWalk.iteOmega, Fa.zero]) (by simp (maxDischargeDepth := 12) [*, go_sem, ↓IntWalk.iteOmega, Fa.zero]) (by simp (maxDischargeDepth := 12) [*, go_sem, ↓IntWalk.iteOmega, Fa.zero]) (by simp (maxDischargeDepth := 12) [*, go_sem, ↓IntWalk.iteOmega, Fa.zero])) rfl ⟨rfl, (by repeat' (first | (with_reducible exact Below.refl _ _) | (with_reducible assumption) | (with_reducible refine Below.alloc ?_ ?_ _) | (with_reducible refine Below.setCell ?_ ?_ _) | (with_reducible refine Below.drew ?_) | (with_reducible refine below_dn ?_ _) | (with_reducible refine Below.trans ?_ (Below.mono (by assumption) ?_)) | go_size))⟩

set_option maxHeartbeats 2000000 in
theorem fif_mft (a b : Fa) (oa : Fa.ok a = true) (ob : Fa.ok b = true) (hka : Fa.known a = none) (hm : Tn.meetOk a.t b.t = false) (w : World) : Calls Try.prog 35 #[.int .u8 16, .bool true, .agg #[.int .u64 (N a.t.v), .int .u64 (N a.t.m), .int .u64 (N a.s.lo), .int .u64 (N a.s.hi)], .agg #[.int .u64 (N b.t.v), .int .u64 (N b.t.m), .int .u64 (N b.s.lo), .int .u64 (N b.s.hi)]] w fun e w' => e = .returned (.tuple #[.agg #[.int .u64 (N (((Fa.if_ 16 true a b).getD (Fa.zero, Fa.zero)).1).t.v), .int .u64 (N (((Fa.if_ 16 true a b).getD (Fa.zero, Fa.zero)).1).t.m), .int .u64 (N (((Fa.if_ 16 true a b).getD (Fa.zero, Fa.zero)).1).s.lo), .int .u64 (N (((Fa.if_ 16 true a b).getD (Fa.zero, Fa.zero)).1).s.hi)], .agg #[.int .u64 (N (((Fa.if_ 16 true a b).getD (Fa.zero, Fa.zero)).2).t.v), .int .u64 (N (((Fa.if_ 16 true a b).getD (Fa.zero, Fa.zero)).2).t.m), .int .u64 (N (((Fa.if_ 16 true a b).getD (Fa.zero, Fa.zero)).2).s.lo), .int .u64 (N (((Fa.if_ 16 true a b).getD (Fa.zero, Fa.zero)).2).s.hi)], .bool (Fa.if_ 16 true a b).isSome]) ∧ Below w.heap.size w w' := by
  have hE : Fa.if_ 16 true a b = none := by rw [Fa.if_k oa ob (.inl hka), Fa.if_lo (.inl rfl), if_pos rfl, hm]; rfl
  rw [hE]
  clear hE
  go_enter Try.func35, Try.ntmps35
  go_wp2_with fail
  refine (fright_c' _ _ _ _ _).mono ?_
  rintro e w1 ⟨rfl, hbw1⟩
  obtain ⟨hcw1, hfw1, hzw1⟩ := bcell hbw1
  (try simp only [World.size_alloc, World.size_setCell, World.size_drew] at hcw1 hfw1 hzw1)
  (try simp only [Tn.eta, Sp.eta, Fa.eta, oa, Option.isSome_some, Option.isSome_none, Option.getD_some, Option.getD_none, if_true, Bool.false_eq_true, if_false])
  go_wp2_with fail
  refine (fright_c' _ _ _ _ _).mono ?_
  rintro e w2 ⟨rfl, hbw2⟩
  obtain ⟨hcw2, hfw2, hzw2⟩ := bcell hbw2
  (try simp only [World.size_alloc, World.size_setCell, World.size_drew] at hcw2 hfw2 hzw2)
  (try simp only [Tn.eta, Sp.eta, Fa.eta, ob, Option.isSome_some, Option.isSome_none, Option.getD_some, Option.getD_none, if_true, Bool.false_eq_true, if_false])
  go_wp2_with fail
  refine (fknown_c' _ _ _ _ _).mono ?_
  rintro e w3 ⟨rfl, hbw3⟩
  obtain ⟨hcw3, hfw3, hzw3⟩ := bcell hbw3
  (try simp only [World.size_alloc, World.size_setCell, World.size_drew] at hcw3 hfw3 hzw3)
  (try simp only [Tn.eta, Sp.eta, Fa.eta, hka, Option.isSome_some, Option.isSome_none, Option.getD_some, Option.getD_none, if_true, Bool.false_eq_true, if_false])
  go_wp2_with fail
  refine (fknown_c' _ _ _ _ _).mono ?_
  rintro e w4 ⟨rfl, hbw4⟩
  obtain ⟨hcw4, hfw4, hzw4⟩ := bcell hbw4
  (try simp only [World.size_alloc, World.size_setCell, World.size_drew] at hcw4 hfw4 hzw4)
  (try simp only [Tn.eta, Sp.eta, Fa.eta, hka, Option.isSome_some, Option.isSome_none, Option.getD_some, Option.getD_none, if_true, Bool.false_eq_true, if_false])
  go_wp2_with fail
  refine (meet_c' _ _ _ _ _).mono ?_
  rintro e w5 ⟨rfl, hbw5⟩
  obtain ⟨hcw5, hfw5, hzw5⟩ := bcell hbw5
  (try simp only [World.size_alloc, World.size_setCell, World.size_drew] at hcw5 hfw5 hzw5)
  (try simp only [Tn.eta, Sp.eta, Fa.eta, hm, Option.isSome_some, Option.isSome_none, Option.getD_some, Option.getD_none, if_true, Bool.false_eq_true, if_false])
  go_wp2_with fail
  go_region
  (try go_wp2)
  refine bodyPost_ret (results_2fa (fn := Try.f35) rfl _ _ (w.heap.size + 1 + 1) (w.heap.size + 1 + 1 + 1) Fa.zero Fa.zero false rfl rfl rfl (by simp (maxDischargeDepth := 12) [*, go_sem, ↓IntWalk.iteOmega, Fa.zero]) (by simp (maxDischargeDepth := 12) [*, go_sem, ↓IntWalk.iteOmega, Fa.zero]) (by simp (maxDischargeDepth := 12) [*, go_sem, ↓IntWalk.iteOmega, Fa.zero]) (by simp (maxDischargeDepth := 12) [*, go_sem, ↓IntWalk.iteOmega, Fa.zero]) (by simp (maxDischargeDepth := 12) [*, go_sem, ↓IntWalk.iteOmega, Fa.zero]) (by simp (maxDischargeDepth := 12) [*, go_sem, ↓IntWalk.iteOmega, Fa.zero]) (by simp (maxDischargeDepth := 12) [*, go_sem, ↓IntWalk.iteOmega, Fa.zero]) (by simp (maxDischargeDepth := 12) [*, go_sem, ↓IntWalk.iteOmega, Fa.zero])) rfl ⟨rfl, (by repeat' (first | (with_reducible exact Below.refl _ _) | (with_reducible assumption) | (with_reducible refine Below.alloc ?_ ?_ _) | (with_reducible refine Below.setCell ?_ ?_ _) | (with_reducible refine Below.drew ?_) | (with_reducible refine below_dn ?_ _) | (with_reducible refine Below.trans ?_ (Below.mono (by assumption) ?_)) | go_size))⟩

set_option maxHeartbeats 2000000 in
theorem fif_eft (a b : Fa) (oa : Fa.ok a = true) (ob : Fa.ok b = true) (hka : Fa.known a = none) (hm : Tn.meetOk a.t b.t = true) (R : Option (Fa × Fa)) (hR : Fa.ranges 16 ⟨Tn.meet a.t b.t, a.s⟩ ⟨Tn.meet a.t b.t, b.s⟩ = R) (w : World) : Calls Try.prog 35 #[.int .u8 16, .bool true, .agg #[.int .u64 (N a.t.v), .int .u64 (N a.t.m), .int .u64 (N a.s.lo), .int .u64 (N a.s.hi)], .agg #[.int .u64 (N b.t.v), .int .u64 (N b.t.m), .int .u64 (N b.s.lo), .int .u64 (N b.s.hi)]] w fun e w' => e = .returned (.tuple #[.agg #[.int .u64 (N (((Fa.if_ 16 true a b).getD (Fa.zero, Fa.zero)).1).t.v), .int .u64 (N (((Fa.if_ 16 true a b).getD (Fa.zero, Fa.zero)).1).t.m), .int .u64 (N (((Fa.if_ 16 true a b).getD (Fa.zero, Fa.zero)).1).s.lo), .int .u64 (N (((Fa.if_ 16 true a b).getD (Fa.zero, Fa.zero)).1).s.hi)], .agg #[.int .u64 (N (((Fa.if_ 16 true a b).getD (Fa.zero, Fa.zero)).2).t.v), .int .u64 (N (((Fa.if_ 16 true a b).getD (Fa.zero, Fa.zero)).2).t.m), .int .u64 (N (((Fa.if_ 16 true a b).getD (Fa.zero, Fa.zero)).2).s.lo), .int .u64 (N (((Fa.if_ 16 true a b).getD (Fa.zero, Fa.zero)).2).s.hi)], .bool (Fa.if_ 16 true a b).isSome]) ∧ Below w.heap.size w w' := by
  have hE : Fa.if_ 16 true a b = R := by rw [Fa.if_k oa ob (.inl hka), Fa.if_lo (.inl rfl), if_pos rfl, hm]; exact hR
  rw [hE]
  clear hE
  go_enter Try.func35, Try.ntmps35
  obtain ⟨t, ht⟩ : ∃ t, Hid (Tn.meet a.t b.t = t) := ⟨_, Lib.hid rfl⟩
  rw [ht.out] at hR
  have hRh := Lib.hid hR
  clear hR
  go_wp2_with fail
  refine (fright_c' _ _ _ _ _).mono ?_
  rintro e w1 ⟨rfl, hbw1⟩
  obtain ⟨hcw1, hfw1, hzw1⟩ := bcell hbw1
  (try simp only [World.size_alloc, World.size_setCell, World.size_drew] at hcw1 hfw1 hzw1)
  (try simp only [Tn.eta, Sp.eta, Fa.eta, oa, Option.isSome_some, Option.isSome_none, Option.getD_some, Option.getD_none, if_true, Bool.false_eq_true, if_false])
  go_wp2_with fail
  refine (fright_c' _ _ _ _ _).mono ?_
  rintro e w2 ⟨rfl, hbw2⟩
  obtain ⟨hcw2, hfw2, hzw2⟩ := bcell hbw2
  (try simp only [World.size_alloc, World.size_setCell, World.size_drew] at hcw2 hfw2 hzw2)
  (try simp only [Tn.eta, Sp.eta, Fa.eta, ob, Option.isSome_some, Option.isSome_none, Option.getD_some, Option.getD_none, if_true, Bool.false_eq_true, if_false])
  go_wp2_with fail
  refine (fknown_c' _ _ _ _ _).mono ?_
  rintro e w3 ⟨rfl, hbw3⟩
  obtain ⟨hcw3, hfw3, hzw3⟩ := bcell hbw3
  (try simp only [World.size_alloc, World.size_setCell, World.size_drew] at hcw3 hfw3 hzw3)
  (try simp only [Tn.eta, Sp.eta, Fa.eta, hka, Option.isSome_some, Option.isSome_none, Option.getD_some, Option.getD_none, if_true, Bool.false_eq_true, if_false])
  go_wp2_with fail
  refine (fknown_c' _ _ _ _ _).mono ?_
  rintro e w4 ⟨rfl, hbw4⟩
  obtain ⟨hcw4, hfw4, hzw4⟩ := bcell hbw4
  (try simp only [World.size_alloc, World.size_setCell, World.size_drew] at hcw4 hfw4 hzw4)
  (try simp only [Tn.eta, Sp.eta, Fa.eta, hka, Option.isSome_some, Option.isSome_none, Option.getD_some, Option.getD_none, if_true, Bool.false_eq_true, if_false])
  go_wp2_with fail
  refine (meet_c' _ _ _ _ _).mono ?_
  rintro e w5 ⟨rfl, hbw5⟩
  obtain ⟨hcw5, hfw5, hzw5⟩ := bcell hbw5
  (try simp only [World.size_alloc, World.size_setCell, World.size_drew] at hcw5 hfw5 hzw5)
  (try simp only [Tn.eta, Sp.eta, Fa.eta, hm, ht.out, Option.isSome_some, Option.isSome_none, Option.getD_some, Option.getD_none, if_true, Bool.false_eq_true, if_false])
  go_wp2_with fail
  go_region
  go_wp2_with fail
  refine (franges_c' _ _ _ _ _ _ _ _ _ _).mono ?_
  rintro e w6 ⟨rfl, hbw6⟩
  obtain ⟨hcw6, hfw6, hzw6⟩ := bcell hbw6
  (try simp only [World.size_alloc, World.size_setCell, World.size_drew] at hcw6 hfw6 hzw6)
  (try simp only [Tn.eta, Sp.eta, Fa.eta, hRh.out, Option.isSome_some, Option.isSome_none, Option.getD_some, Option.getD_none, if_true, Bool.false_eq_true, if_false])
  go_wp2
  refine bodyPost_ret (results_2fa (fn := Try.f35) rfl _ _ (w.heap.size + 1 + 1) (w.heap.size + 1 + 1 + 1) ((R.getD (Fa.zero, Fa.zero)).1) ((R.getD (Fa.zero, Fa.zero)).2) R.isSome rfl rfl rfl (by simp (maxDischargeDepth := 12) [*, go_sem, ↓IntWalk.iteOmega, Fa.zero]) (by simp (maxDischargeDepth := 12) [*, go_sem, ↓IntWalk.iteOmega, Fa.zero]) (by simp (maxDischargeDepth := 12) [*, go_sem, ↓IntWalk.iteOmega, Fa.zero]) (by simp (maxDischargeDepth := 12) [*, go_sem, ↓IntWalk.iteOmega, Fa.zero]) (by simp (maxDischargeDepth := 12) [*, go_sem, ↓IntWalk.iteOmega, Fa.zero]) (by simp (maxDischargeDepth := 12) [*, go_sem, ↓IntWalk.iteOmega, Fa.zero]) (by simp (maxDischargeDepth := 12) [*, go_sem, ↓IntWalk.iteOmega, Fa.zero]) (by simp (maxDischargeDepth := 12) [*, go_sem, ↓IntWalk.iteOmega, Fa.zero])) rfl ⟨rfl, (by repeat' (first | (with_reducible exact Below.refl _ _) | (with_reducible assumption) | (with_reducible refine Below.alloc ?_ ?_ _) | (with_reducible refine Below.setCell ?_ ?_ _) | (with_reducible refine Below.drew ?_) | (with_reducible refine below_dn ?_ _) | (with_reducible refine Below.trans ?_ (Below.mono (by assumption) ?_)) | go_size))⟩

set_option maxHeartbeats 2000000 in
theorem fif_rft (op : Int) (a b : Fa) (oa : Fa.ok a = true) (ob : Fa.ok b = true) (hka : Fa.known a = none) (n16 : ¬ op = 16) (R : Option (Fa × Fa)) (hR : Fa.ranges op a b = R) (w : World) : Calls Try.prog 35 #[.int .u8 op, .bool true, .agg #[.int .u64 (N a.t.v), .int .u64 (N a.t.m), .int .u64 (N a.s.lo), .int .u64 (N a.s.hi)], .agg #[.int .u64 (N b.t.v), .int .u64 (N b.t.m), .int .u64 (N b.s.lo), .int .u64 (N b.s.hi)]] w fun e w' => e = .returned (.tuple #[.agg #[.int .u64 (N (((Fa.if_ op true a b).getD (Fa.zero, Fa.zero)).1).t.v), .int .u64 (N (((Fa.if_ op true a b).getD (Fa.zero, Fa.zero)).1).t.m), .int .u64 (N (((Fa.if_ op true a b).getD (Fa.zero, Fa.zero)).1).s.lo), .int .u64 (N (((Fa.if_ op true a b).getD (Fa.zero, Fa.zero)).1).s.hi)], .agg #[.int .u64 (N (((Fa.if_ op true a b).getD (Fa.zero, Fa.zero)).2).t.v), .int .u64 (N (((Fa.if_ op true a b).getD (Fa.zero, Fa.zero)).2).t.m), .int .u64 (N (((Fa.if_ op true a b).getD (Fa.zero, Fa.zero)).2).s.lo), .int .u64 (N (((Fa.if_ op true a b).getD (Fa.zero, Fa.zero)).2).s.hi)], .bool (Fa.if_ op true a b).isSome]) ∧ Below w.heap.size w w' := by
  have hE : Fa.if_ op true a b = R := by rw [Fa.if_k oa ob (.inl hka), Fa.if_lo (.inl rfl), if_neg n16]; exact hR
  rw [hE]
  clear hE
  go_enter Try.func35, Try.ntmps35
  have hRh := Lib.hid hR
  clear hR
  go_wp2_with fail
  refine (fright_c' _ _ _ _ _).mono ?_
  rintro e w1 ⟨rfl, hbw1⟩
  obtain ⟨hcw1, hfw1, hzw1⟩ := bcell hbw1
  (try simp only [World.size_alloc, World.size_setCell, World.size_drew] at hcw1 hfw1 hzw1)
  (try simp only [Tn.eta, Sp.eta, Fa.eta, oa, Option.isSome_some, Option.isSome_none, Option.getD_some, Option.getD_none, if_true, Bool.false_eq_true, if_false])
  go_wp2_with fail
  refine (fright_c' _ _ _ _ _).mono ?_
  rintro e w2 ⟨rfl, hbw2⟩
  obtain ⟨hcw2, hfw2, hzw2⟩ := bcell hbw2
  (try simp only [World.size_alloc, World.size_setCell, World.size_drew] at hcw2 hfw2 hzw2)
  (try simp only [Tn.eta, Sp.eta, Fa.eta, ob, Option.isSome_some, Option.isSome_none, Option.getD_some, Option.getD_none, if_true, Bool.false_eq_true, if_false])
  go_wp2_with fail
  refine (fknown_c' _ _ _ _ _).mono ?_
  rintro e w3 ⟨rfl, hbw3⟩
  obtain ⟨hcw3, hfw3, hzw3⟩ := bcell hbw3
  (try simp only [World.size_alloc, World.size_setCell, World.size_drew] at hcw3 hfw3 hzw3)
  (try simp only [Tn.eta, Sp.eta, Fa.eta, hka, Option.isSome_some, Option.isSome_none, Option.getD_some, Option.getD_none, if_true, Bool.false_eq_true, if_false])
  go_wp2_with fail
  refine (fknown_c' _ _ _ _ _).mono ?_
  rintro e w4 ⟨rfl, hbw4⟩
  obtain ⟨hcw4, hfw4, hzw4⟩ := bcell hbw4
  (try simp only [World.size_alloc, World.size_setCell, World.size_drew] at hcw4 hfw4 hzw4)
  (try simp only [Tn.eta, Sp.eta, Fa.eta, hka, Option.isSome_some, Option.isSome_none, Option.getD_some, Option.getD_none, if_true, Bool.false_eq_true, if_false])
  go_wp2_with fail
  refine (franges_c' _ _ _ _ _ _ _ _ _ _).mono ?_
  rintro e w6 ⟨rfl, hbw6⟩
  obtain ⟨hcw6, hfw6, hzw6⟩ := bcell hbw6
  (try simp only [World.size_alloc, World.size_setCell, World.size_drew] at hcw6 hfw6 hzw6)
  (try simp only [Tn.eta, Sp.eta, Fa.eta, hRh.out, Option.isSome_some, Option.isSome_none, Option.getD_some, Option.getD_none, if_true, Bool.false_eq_true, if_false])
  go_wp2
  refine bodyPost_ret (results_2fa (fn := Try.f35) rfl _ _ (w.heap.size + 1 + 1) (w.heap.size + 1 + 1 + 1) ((R.getD (Fa.zero, Fa.zero)).1) ((R.getD (Fa.zero, Fa.zero)).2) R.isSome rfl rfl rfl (by simp (maxDischargeDepth := 12) [*, go_sem, ↓IntWalk.iteOmega, Fa.zero]) (by simp (maxDischargeDepth := 12) [*, go_sem, ↓IntWalk.iteOmega, Fa.zero]) (by simp (maxDischargeDepth := 12) [*, go_sem, ↓IntWalk.iteOmega, Fa.zero]) (by simp (maxDischargeDepth := 12) [*, go_sem, ↓IntWalk.iteOmega, Fa.zero]) (by simp (maxDischargeDepth := 12) [*, go_sem, ↓IntWalk.iteOmega, Fa.zero]) (by simp (maxDischargeDepth := 12) [*, go_sem, ↓IntWalk.iteOmega, Fa.zero]) (by simp (maxDischargeDepth := 12) [*, go_sem, ↓IntWalk.iteOmega, Fa.zero]) (by simp (maxDischargeDepth := 12) [*, go_sem, ↓IntWalk.iteOmega, Fa.zero])) rfl ⟨rfl, (by repeat' (first | (with_reducible exact Below.refl _ _) | (with_reducible assumption) | (with_reducible refine Below.alloc ?_ ?_ _) | (with_reducible refine Below.setCell ?_ ?_ _) | (with_reducible refine Below.drew ?_) | (with_reducible refine below_dn ?_ _) | (with_reducible refine Below.trans ?_ (Below.mono (by assumption) ?_)) | go_size))⟩

set_option maxHeartbeats 2000000 in
theorem fif_mff (a b : Fa) (oa : Fa.ok a = true) (ob : Fa.ok b = true) (hka : Fa.known a = none) (hl : decide (4294967296#64 ≤ Sp.mx a.s.hi b.s.hi) = false) (hm : Tn.meetOk a.t b.t = false) (w : World) : Calls Try.prog 35 #[.int .u8 16, .bool false, .agg #[.int .u64 (N a.t.v), .int .u64 (N a.t.m), .int .u64 (N a.s.lo), .int .u64 (N a.s.hi)], .agg #[.int .u64 (N b.t.v), .int .u64 (N b.t.m), .int .u64 (N b.s.lo), .int .u64 (N b.s.hi)]] w fun e w' => e = .returned (.tuple #[.agg #[.int .u64 (N (((Fa.if_ 16 false a b).getD (Fa.zero, Fa.zero)).1).t.v), .int .u64 (N (((Fa.if_ 16 false a b).getD (Fa.zero, Fa.zero)).1).t.m), .int .u64 (N (((Fa.if_ 16 false a b).getD (Fa.zero, Fa.zero)).1).s.lo), .int .u64 (N (((Fa.if_ 16 false a b).getD (Fa.zero, Fa.zero)).1).s.hi)], .agg #[.int .u64 (N (((Fa.if_ 16 false a b).getD (Fa.zero, Fa.zero)).2).t.v), .int .u64 (N (((Fa.if_ 16 false a b).getD (Fa.zero, Fa.zero)).2).t.m), .int .u64 (N (((Fa.if_ 16 false a b).getD (Fa.zero, Fa.zero)).2).s.lo), .int .u64 (N (((Fa.if_ 16 false a b).getD (Fa.zero, Fa.zero)).2).s.hi)], .bool (Fa.if_ 16 false a b).isSome]) ∧ Below w.heap.size w w' := by
  have hE : Fa.if_ 16 false a b = none := by rw [Fa.if_k oa ob (.inl hka), Fa.if_lo (.inr hl), if_pos rfl, hm]; rfl
  rw [hE]
  clear hE
  go_enter Try.func35, Try.ntmps35
  go_wp2_with fail
  refine (fright_c' _ _ _ _ _).mono ?_
  rintro e w1 ⟨rfl, hbw1⟩
  obtain ⟨hcw1, hfw1, hzw1⟩ := bcell hbw1
  (try simp only [World.size_alloc, World.size_setCell, World.size_drew] at hcw1 hfw1 hzw1)
  (try simp only [Tn.eta, Sp.eta, Fa.eta, oa, Option.isSome_some, Option.isSome_none, Option.getD_some, Option.getD_none, if_true, Bool.false_eq_true, if_false])
  go_wp2_with fail
  refine (fright_c' _ _ _ _ _).mono ?_
  rintro e w2 ⟨rfl, hbw2⟩
  obtain ⟨hcw2, hfw2, hzw2⟩ := bcell hbw2
  (try simp only [World.size_alloc, World.size_setCell, World.size_drew] at hcw2 hfw2 hzw2)
  (try simp only [Tn.eta, Sp.eta, Fa.eta, ob, Option.isSome_some, Option.isSome_none, Option.getD_some, Option.getD_none, if_true, Bool.false_eq_true, if_false])
  go_wp2_with fail
  refine (fknown_c' _ _ _ _ _).mono ?_
  rintro e w3 ⟨rfl, hbw3⟩
  obtain ⟨hcw3, hfw3, hzw3⟩ := bcell hbw3
  (try simp only [World.size_alloc, World.size_setCell, World.size_drew] at hcw3 hfw3 hzw3)
  (try simp only [Tn.eta, Sp.eta, Fa.eta, hka, Option.isSome_some, Option.isSome_none, Option.getD_some, Option.getD_none, if_true, Bool.false_eq_true, if_false])
  go_wp2_with fail
  refine (fknown_c' _ _ _ _ _).mono ?_
  rintro e w4 ⟨rfl, hbw4⟩
  obtain ⟨hcw4, hfw4, hzw4⟩ := bcell hbw4
  (try simp only [World.size_alloc, World.size_setCell, World.size_drew] at hcw4 hfw4 hzw4)
  (try simp only [Tn.eta, Sp.eta, Fa.eta, hka, Option.isSome_some, Option.isSome_none, Option.getD_some, Option.getD_none, if_true, Bool.false_eq_true, if_false])
  go_wp2_with fail
  refine (meet_c' _ _ _ _ _).mono ?_
  rintro e w5 ⟨rfl, hbw5⟩
  obtain ⟨hcw5, hfw5, hzw5⟩ := bcell hbw5
  (try simp only [World.size_alloc, World.size_setCell, World.size_drew] at hcw5 hfw5 hzw5)
  (try simp only [Tn.eta, Sp.eta, Fa.eta, hm, Option.isSome_some, Option.isSome_none, Option.getD_some, Option.getD_none, if_true, Bool.false_eq_true, if_false])
  go_wp2_with fail
  go_region
  (try go_wp2)
  refine bodyPost_ret (results_2fa (fn := Try.f35) rfl _ _ (w.heap.size + 1 + 1) (w.heap.size + 1 + 1 + 1) Fa.zero Fa.zero false rfl rfl rfl (by simp (maxDischargeDepth := 12) [*, go_sem, ↓IntWalk.iteOmega, Fa.zero]) (by simp (maxDischargeDepth := 12) [*, go_sem, ↓IntWalk.iteOmega, Fa.zero]) (by simp (maxDischargeDepth := 12) [*, go_sem, ↓IntWalk.iteOmega, Fa.zero]) (by simp (maxDischargeDepth := 12) [*, go_sem, ↓IntWalk.iteOmega, Fa.zero]) (by simp (maxDischargeDepth := 12) [*, go_sem, ↓IntWalk.iteOmega, Fa.zero]) (by simp (maxDischargeDepth := 12) [*, go_sem, ↓IntWalk.iteOmega, Fa.zero]) (by simp (maxDischargeDepth := 12) [*, go_sem, ↓IntWalk.iteOmega, Fa.zero]) (by simp (maxDischargeDepth := 12) [*, go_sem, ↓IntWalk.iteOmega, Fa.zero])) rfl ⟨rfl, (by repeat' (first | (with_reducible exact Below.refl _ _) | (with_reducible assumption) | (with_reducible refine Below.alloc ?_ ?_ _) | (with_reducible refine Below.setCell ?_ ?_ _) | (with_reducible refine Below.drew ?_) | (with_reducible refine below_dn ?_ _) | (with_reducible refine Below.trans ?_ (Below.mono (by assumption) ?_)) | go_size))⟩

set_option maxHeartbeats 2000000 in
theorem fif_eff (a b : Fa) (oa : Fa.ok a = true) (ob : Fa.ok b = true) (hka : Fa.known a = none) (hl : decide (4294967296#64 ≤ Sp.mx a.s.hi b.s.hi) = false) (hm : Tn.meetOk a.t b.t = true) (R : Option (Fa × Fa)) (hR : Fa.ranges 16 ⟨Tn.meet a.t b.t, a.s⟩ ⟨Tn.meet a.t b.t, b.s⟩ = R) (w : World) : Calls Try.prog 35 #[.int .u8 16, .bool false, .agg #[.int .u64 (N a.t.v), .int .u64 (N a.t.m), .int .u64 (N a.s.lo), .int .u64 (N a.s.hi)], .agg #[.int .u64 (N b.t.v), .int .u64 (N b.t.m), .int .u64 (N b.s.lo), .int .u64 (N b.s.hi)]] w fun e w' => e = .returned (.tuple #[.agg #[.int .u64 (N (((Fa.if_ 16 false a b).getD (Fa.zero, Fa.zero)).1).t.v), .int .u64 (N (((Fa.if_ 16 false a b).getD (Fa.zero, Fa.zero)).1).t.m), .int .u64 (N (((Fa.if_ 16 false a b).getD (Fa.zero, Fa.zero)).1).s.lo), .int .u64 (N (((Fa.if_ 16 false a b).getD (Fa.zero, Fa.zero)).1).s.hi)], .agg #[.int .u64 (N (((Fa.if_ 16 false a b).getD (Fa.zero, Fa.zero)).2).t.v), .int .u64 (N (((Fa.if_ 16 false a b).getD (Fa.zero, Fa.zero)).2).t.m), .int .u64 (N (((Fa.if_ 16 false a b).getD (Fa.zero, Fa.zero)).2).s.lo), .int .u64 (N (((Fa.if_ 16 false a b).getD (Fa.zero, Fa.zero)).2).s.hi)], .bool (Fa.if_ 16 false a b).isSome]) ∧ Below w.heap.size w w' := by
  have hE : Fa.if_ 16 false a b = R := by rw [Fa.if_k oa ob (.inl hka), Fa.if_lo (.inr hl), if_pos rfl, hm]; exact hR
  rw [hE]
  clear hE
  go_enter Try.func35, Try.ntmps35
  obtain ⟨t, ht⟩ : ∃ t, Hid (Tn.meet a.t b.t = t) := ⟨_, Lib.hid rfl⟩
  rw [ht.out] at hR
  have hRh := Lib.hid hR
  clear hR
  go_wp2_with fail
  refine (fright_c' _ _ _ _ _).mono ?_
  rintro e w1 ⟨rfl, hbw1⟩
  obtain ⟨hcw1, hfw1, hzw1⟩ := bcell hbw1
  (try simp only [World.size_alloc, World.size_setCell, World.size_drew] at hcw1 hfw1 hzw1)
  (try simp only [Tn.eta, Sp.eta, Fa.eta, oa, Option.isSome_some, Option.isSome_none, Option.getD_some, Option.getD_none, if_true, Bool.false_eq_true, if_false])
  go_wp2_with fail
  refine (fright_c' _ _ _ _ _).mono ?_
  rintro e w2 ⟨rfl, hbw2⟩
  obtain ⟨hcw2, hfw2, hzw2⟩ := bcell hbw2
  (try simp only [World.size_alloc, World.size_setCell, World.size_drew] at hcw2 hfw2 hzw2)
  (try simp only [Tn.eta, Sp.eta, Fa.eta, ob, Option.isSome_some, Option.isSome_none, Option.getD_some, Option.getD_none, if_true, Bool.false_eq_true, if_false])
  go_wp2_with fail
  refine (fknown_c' _ _ _ _ _).mono ?_
  rintro e w3 ⟨rfl, hbw3⟩
  obtain ⟨hcw3, hfw3, hzw3⟩ := bcell hbw3
  (try simp only [World.size_alloc, World.size_setCell, World.size_drew] at hcw3 hfw3 hzw3)
  (try simp only [Tn.eta, Sp.eta, Fa.eta, hka, Option.isSome_some, Option.isSome_none, Option.getD_some, Option.getD_none, if_true, Bool.false_eq_true, if_false])
  go_wp2_with fail
  refine (fknown_c' _ _ _ _ _).mono ?_
  rintro e w4 ⟨rfl, hbw4⟩
  obtain ⟨hcw4, hfw4, hzw4⟩ := bcell hbw4
  (try simp only [World.size_alloc, World.size_setCell, World.size_drew] at hcw4 hfw4 hzw4)
  (try simp only [Tn.eta, Sp.eta, Fa.eta, hka, Option.isSome_some, Option.isSome_none, Option.getD_some, Option.getD_none, if_true, Bool.false_eq_true, if_false])
  go_wp2_with fail
  refine (meet_c' _ _ _ _ _).mono ?_
  rintro e w5 ⟨rfl, hbw5⟩
  obtain ⟨hcw5, hfw5, hzw5⟩ := bcell hbw5
  (try simp only [World.size_alloc, World.size_setCell, World.size_drew] at hcw5 hfw5 hzw5)
  (try simp only [Tn.eta, Sp.eta, Fa.eta, hm, ht.out, Option.isSome_some, Option.isSome_none, Option.getD_some, Option.getD_none, if_true, Bool.false_eq_true, if_false])
  go_wp2_with fail
  go_region
  go_wp2_with fail
  refine (franges_c' _ _ _ _ _ _ _ _ _ _).mono ?_
  rintro e w6 ⟨rfl, hbw6⟩
  obtain ⟨hcw6, hfw6, hzw6⟩ := bcell hbw6
  (try simp only [World.size_alloc, World.size_setCell, World.size_drew] at hcw6 hfw6 hzw6)
  (try simp only [Tn.eta, Sp.eta, Fa.eta, hRh.out, Option.isSome_some, Option.isSome_none, Option.getD_some, Option.getD_none, if_true, Bool.false_eq_true, if_false])
  go_wp2
  refine bodyPost_ret (results_2fa (fn := Try.f35) rfl _ _ (w.heap.size + 1 + 1) (w.heap.size + 1 + 1 + 1) ((R.getD (Fa.zero, Fa.zero)).1) ((R.getD (Fa.zero, Fa.zero)).2) R.isSome rfl rfl rfl (by simp (maxDischargeDepth := 12) [*, go_sem, ↓IntWalk.iteOmega, Fa.zero]) (by simp (maxDischargeDepth := 12) [*, go_sem, ↓IntWalk.iteOmega, Fa.zero]) (by simp (maxDischargeDepth := 12) [*, go_sem, ↓IntWalk.iteOmega, Fa.zero]) (by simp (maxDischargeDepth := 12) [*, go_sem, ↓IntWalk.iteOmega, Fa.zero]) (by simp (maxDischargeDepth := 12) [*, go_sem, ↓IntWalk.iteOmega, Fa.zero]) (by simp (maxDischargeDepth := 12) [*, go_sem, ↓IntWalk.iteOmega, Fa.zero]) (by simp (maxDischargeDepth := 12) [*, go_sem, ↓IntWalk.iteOmega, Fa.zero]) (by simp (maxDischargeDepth := 12) [*, go_sem, ↓IntWalk.iteOmega, Fa.zero])) rfl ⟨rfl, (by repeat' (first | (with_reducible exact Below.refl _ _) | (with_reducible assumption) | (with_reducible refine Below.alloc ?_ ?_ _) | (with_reducible refine Below.setCell ?_ ?_ _) | (with_reducible refine Below.drew ?_) | (with_reducible refine below_dn ?_ _) | (with_reducible refine Below.trans ?_ (Below.mono (by assumption) ?_)) | go_size))⟩

set_option maxHeartbeats 2000000 in
theorem fif_rff (op : Int) (a b : Fa) (oa : Fa.ok a = true) (ob : Fa.ok b = true) (hka : Fa.known a = none) (hl : decide (4294967296#64 ≤ Sp.mx a.s.hi b.s.hi) = false) (n16 : ¬ op = 16) (R : Option (Fa × Fa)) (hR : Fa.ranges op a b = R) (w : World) : Calls Try.prog 35 #[.int .u8 op, .bool false, .agg #[.int .u64 (N a.t.v), .int .u64 (N a.t.m), .int .u64 (N a.s.lo), .int .u64 (N a.s.hi)], .agg #[.int .u64 (N b.t.v), .int .u64 (N b.t.m), .int .u64 (N b.s.lo), .int .u64 (N b.s.hi)]] w fun e w' => e = .returned (.tuple #[.agg #[.int .u64 (N (((Fa.if_ op false a b).getD (Fa.zero, Fa.zero)).1).t.v), .int .u64 (N (((Fa.if_ op false a b).getD (Fa.zero, Fa.zero)).1).t.m), .int .u64 (N (((Fa.if_ op false a b).getD (Fa.zero, Fa.zero)).1).s.lo), .int .u64 (N (((Fa.if_ op false a b).getD (Fa.zero, Fa.zero)).1).s.hi)], .agg #[.int .u64 (N (((Fa.if_ op false a b).getD (Fa.zero, Fa.zero)).2).t.v), .int .u64 (N (((Fa.if_ op false a b).getD (Fa.zero, Fa.zero)).2).t.m), .int .u64 (N (((Fa.if_ op false a b).getD (Fa.zero, Fa.zero)).2).s.lo), .int .u64 (N (((Fa.if_ op false a b).getD (Fa.zero, Fa.zero)).2).s.hi)], .bool (Fa.if_ op false a b).isSome]) ∧ Below w.heap.size w w' := by
  have hE : Fa.if_ op false a b = R := by rw [Fa.if_k oa ob (.inl hka), Fa.if_lo (.inr hl), if_neg n16]; exact hR
  rw [hE]
  clear hE
  go_enter Try.func35, Try.ntmps35
  have hRh := Lib.hid hR
  clear hR
  go_wp2_with fail
  refine (fright_c' _ _ _ _ _).mono ?_
  rintro e w1 ⟨rfl, hbw1⟩
  obtain ⟨hcw1, hfw1, hzw1⟩ := bcell hbw1
  (try simp only [World.size_alloc, World.size_setCell, World.size_drew] at hcw1 hfw1 hzw1)
  (try simp only [Tn.eta, Sp.eta, Fa.eta, oa, Option.isSome_some, Option.isSome_none, Option.getD_some, Option.getD_none, if_true, Bool.false_eq_true, if_false])
  go_wp2_with fail
  refine (fright_c' _ _ _ _ _).mono ?_
  rintro e w2 ⟨rfl, hbw2⟩
  obtain ⟨hcw2, hfw2, hzw2⟩ := bcell hbw2
  (try simp only [World.size_alloc, World.size_setCell, World.size_drew] at hcw2 hfw2 hzw2)
  (try simp only [Tn.eta, Sp.eta, Fa.eta, ob, Option.isSome_some, Option.isSome_none, Option.getD_some, Option.getD_none, if_true, Bool.false_eq_true, if_false])
  go_wp2_with fail
  refine (fknown_c' _ _ _ _ _).mono ?_
  rintro e w3 ⟨rfl, hbw3⟩
  obtain ⟨hcw3, hfw3, hzw3⟩ := bcell hbw3
  (try simp only [World.size_alloc, World.size_setCell, World.size_drew] at hcw3 hfw3 hzw3)
  (try simp only [Tn.eta, Sp.eta, Fa.eta, hka, Option.isSome_some, Option.isSome_none, Option.getD_some, Option.getD_none, if_true, Bool.false_eq_true, if_false])
  go_wp2_with fail
  refine (fknown_c' _ _ _ _ _).mono ?_
  rintro e w4 ⟨rfl, hbw4⟩
  obtain ⟨hcw4, hfw4, hzw4⟩ := bcell hbw4
  (try simp only [World.size_alloc, World.size_setCell, World.size_drew] at hcw4 hfw4 hzw4)
  (try simp only [Tn.eta, Sp.eta, Fa.eta, hka, Option.isSome_some, Option.isSome_none, Option.getD_some, Option.getD_none, if_true, Bool.false_eq_true, if_false])
  go_wp2_with fail
  refine (franges_c' _ _ _ _ _ _ _ _ _ _).mono ?_
  rintro e w6 ⟨rfl, hbw6⟩
  obtain ⟨hcw6, hfw6, hzw6⟩ := bcell hbw6
  (try simp only [World.size_alloc, World.size_setCell, World.size_drew] at hcw6 hfw6 hzw6)
  (try simp only [Tn.eta, Sp.eta, Fa.eta, hRh.out, Option.isSome_some, Option.isSome_none, Option.getD_some, Option.getD_none, if_true, Bool.false_eq_true, if_false])
  go_wp2
  refine bodyPost_ret (results_2fa (fn := Try.f35) rfl _ _ (w.heap.size + 1 + 1) (w.heap.size + 1 + 1 + 1) ((R.getD (Fa.zero, Fa.zero)).1) ((R.getD (Fa.zero, Fa.zero)).2) R.isSome rfl rfl rfl (by simp (maxDischargeDepth := 12) [*, go_sem, ↓IntWalk.iteOmega, Fa.zero]) (by simp (maxDischargeDepth := 12) [*, go_sem, ↓IntWalk.iteOmega, Fa.zero]) (by simp (maxDischargeDepth := 12) [*, go_sem, ↓IntWalk.iteOmega, Fa.zero]) (by simp (maxDischargeDepth := 12) [*, go_sem, ↓IntWalk.iteOmega, Fa.zero]) (by simp (maxDischargeDepth := 12) [*, go_sem, ↓IntWalk.iteOmega, Fa.zero]) (by simp (maxDischargeDepth := 12) [*, go_sem, ↓IntWalk.iteOmega, Fa.zero]) (by simp (maxDischargeDepth := 12) [*, go_sem, ↓IntWalk.iteOmega, Fa.zero]) (by simp (maxDischargeDepth := 12) [*, go_sem, ↓IntWalk.iteOmega, Fa.zero])) rfl ⟨rfl, (by repeat' (first | (with_reducible exact Below.refl _ _) | (with_reducible assumption) | (with_reducible refine Below.alloc ?_ ?_ _) | (with_reducible refine Below.setCell ?_ ?_ _) | (with_reducible refine Below.drew ?_) | (with_reducible refine below_dn ?_ _) | (with_reducible refine Below.trans ?_ (Below.mono (by assumption) ?_)) | go_size))⟩

set_option maxHeartbeats 2000000 in
theorem fif_hit (op : Int) (a b : Fa) (oa : Fa.ok a = true) (ob : Fa.ok b = true) (p : BitVec 64) (hka : Fa.known a = some p) (hkb : Fa.known b = none) (hl : decide (4294967296#64 ≤ Sp.mx a.s.hi b.s.hi) = true) (w : World) : Calls Try.prog 35 #[.int .u8 op, .bool false, .agg #[.int .u64 (N a.t.v), .int .u64 (N a.t.m), .int .u64 (N a.s.lo), .int .u64 (N a.s.hi)], .agg #[.int .u64 (N b.t.v), .int .u64 (N b.t.m), .int .u64 (N b.s.lo), .int .u64 (N b.s.hi)]] w fun e w' => e = .returned (.tuple #[.agg #[.int .u64 (N (((Fa.if_ op false a b).getD (Fa.zero, Fa.zero)).1).t.v), .int .u64 (N (((Fa.if_ op false a b).getD (Fa.zero, Fa.zero)).1).t.m), .int .u64 (N (((Fa.if_ op false a b).getD (Fa.zero, Fa.zero)).1).s.lo), .int .u64 (N (((Fa.if_ op false a b).getD (Fa.zero, Fa.zero)).1).s.hi)], .agg #[.int .u64 (N (((Fa.if_ op false a b).getD (Fa.zero, Fa.zero)).2).t.v), .int .u64 (N (((Fa.if_ op false a b).getD (Fa.zero, Fa.zero)).2).t.m), .int .u64 (N (((Fa.if_ op false a b).getD (Fa.zero, Fa.zero)).2).s.lo), .int .u64 (N (((Fa.if_ op false a b).getD (Fa.zero, Fa.zero)).2).s.hi)], .bool (Fa.if_ op false a b).isSome]) ∧ Below w.heap.size w w' := by
  have hE : Fa.if_ op false a b = some (a, b) := by rw [Fa.if_k oa ob (.inr hkb)]; exact Fa.if_hi hl
  rw [hE]
  clear hE
  go_enter Try.func35, Try.ntmps35
  go_wp2_with fail
  refine (fright_c' _ _ _ _ _).mono ?_
  rintro e w1 ⟨rfl, hbw1⟩
  obtain ⟨hcw1, hfw1, hzw1⟩ := bcell hbw1
  (try simp only [World.size_alloc, World.size_setCell, World.size_drew] at hcw1 hfw1 hzw1)
  (try simp only [Tn.eta, Sp.eta, Fa.eta, oa, Option.isSome_some, Option.isSome_none, Option.getD_some, Option.getD_none, if_true, Bool.false_eq_true, if_false])
  go_wp2_with fail
  refine (fright_c' _ _ _ _ _).mono ?_
  rintro e w2 ⟨rfl, hbw2⟩
  obtain ⟨hcw2, hfw2, hzw2⟩ := bcell hbw2
  (try simp only [World.size_alloc, World.size_setCell, World.size_drew] at hcw2 hfw2 hzw2)
  (try simp only [Tn.eta, Sp.eta, Fa.eta, ob, Option.isSome_some, Option.isSome_none, Option.getD_some, Option.getD_none, if_true, Bool.false_eq_true, if_false])
  go_wp2_with fail
  refine (fknown_c' _ _ _ _ _).mono ?_
  rintro e w3 ⟨rfl, hbw3⟩
  obtain ⟨hcw3, hfw3, hzw3⟩ := bcell hbw3
  (try simp only [World.size_alloc, World.size_setCell, World.size_drew] at hcw3 hfw3 hzw3)
  (try simp only [Tn.eta, Sp.eta, Fa.eta, hka, Option.isSome_some, Option.isSome_none, Option.getD_some, Option.getD_none, if_true, Bool.false_eq_true, if_false])
  go_wp2_with fail
  refine (fknown_c' _ _ _ _ _).mono ?_
  rintro e w4 ⟨rfl, hbw4⟩
  obtain ⟨hcw4, hfw4, hzw4⟩ := bcell hbw4
  (try simp only [World.size_alloc, World.size_setCell, World.size_drew] at hcw4 hfw4 hzw4)
  (try simp only [Tn.eta, Sp.eta, Fa.eta, hkb, Option.isSome_some, Option.isSome_none, Option.getD_some, Option.getD_none, if_true, Bool.false_eq_true, if_false])
  go_wp2_with fail
  go_region
  (try go_wp2)
  refine bodyPost_ret (results_2fa (fn := Try.f35) rfl _ _ (w.heap.size + 1 + 1) (w.heap.size + 1 + 1 + 1) a b true rfl rfl rfl (by simp (maxDischargeDepth := 12) [*, go_sem, ↓IntWalk.iteOmega, Fa.zero]) (by simp (maxDischargeDepth := 12) [*, go_sem, ↓IntWalk.iteOmega, Fa.zero]) (by simp (maxDischargeDepth := 12) [*, go_sem, ↓IntWalk.iteOmega, Fa.zero]) (by simp (maxDischargeDepth := 12) [*, go_sem, ↓IntWalk.iteOmega, Fa.zero]) (by simp (maxDischargeDepth := 12) [*, go_sem, ↓IntWalk.iteOmega, Fa.zero]) (by simp (maxDischargeDepth := 12) [*, go_sem, ↓IntWalk.iteOmega, Fa.zero]) (by simp (maxDischargeDepth := 12) [*, go_sem, ↓IntWalk.iteOmega, Fa.zero]) (by simp (maxDischargeDepth := 12) [*, go_sem, ↓IntWalk.iteOmega, Fa.zero])) rfl ⟨rfl, (by repeat' (first | (with_reducible exact Below.refl _ _) | (with_reducible assumption) | (with_reducible refine Below.alloc ?_ ?_ _) | (with_reducible refine Below.setCell ?_ ?_ _) | (with_reducible refine Below.drew ?_) | (with_reducible refine below_dn ?_ _) | (with_reducible refine Below.trans ?_ (Below.mono (by assumption) ?_)) | go_size))⟩

set_option maxHeartbeats 2000000 in
theorem fif_mtt (a b : Fa) (oa : Fa.ok a = true) (ob : Fa.ok b = true) (p : BitVec 64) (hka : Fa.known a = some p) (hkb : Fa.known b = none) (hm : Tn.meetOk a.t b.t = false) (w : World) : Calls Try.prog 35 #[.int .u8 16, .bool true, .agg #[.int .u64 (N a.t.v), .int .u64 (N a.t.m), .int .u64 (N a.s.lo), .int .u64 (N a.s.hi)], .agg #[.int .u64 (N b.t.v), .int .u64 (N b.t.m), .int .u64 (N b.s.lo), .int .u64 (N b.s.hi)]] w fun e w' => e = .returned (.tuple #[.agg #[.int .u64 (N (((Fa.if_ 16 true a b).getD (Fa.zero, Fa.zero)).1).t.v), .int .u64 (N (((Fa.if_ 16 true a b).getD (Fa.zero, Fa.zero)).1).t.m), .int .u64 (N (((Fa.if_ 16 true a b).getD (Fa.zero, Fa.zero)).1).s.lo), .int .u64 (N (((Fa.if_ 16 true a b).getD (Fa.zero, Fa.zero)).1).s.hi)], .agg #[.int .u64 (N (((Fa.if_ 16 true a b).getD (Fa.zero, Fa.zero)).2).t.v), .int .u64 (N (((Fa.if_ 16 true a b).getD (Fa.zero, Fa.zero)).2).t.m), .int .u64 (N (((Fa.if_ 16 true a b).getD (Fa.zero, Fa.zero)).2).s.lo), .int .u64 (N (((Fa.if_ 16 true a b).getD (Fa.zero, Fa.zero)).2).s.hi)], .bool (Fa.if_ 16 true a b).isSome]) ∧ Below w.heap.size w w' := by
  have hE : Fa.if_ 16 true a b = none := by rw [Fa.if_k oa ob (.inr hkb), Fa.if_lo (.inl rfl), if_pos rfl, hm]; rfl
  rw [hE]
  clear hE
  go_enter Try.func35, Try.ntmps35
  go_wp2_with fail
  refine (fright_c' _ _ _ _ _).mono ?_
  rintro e w1 ⟨rfl, hbw1⟩
  obtain ⟨hcw1, hfw1, hzw1⟩ := bcell hbw1
  (try simp only [World.size_alloc, World.size_setCell, World.size_drew] at hcw1 hfw1 hzw1)
  (try simp only [Tn.eta, Sp.eta, Fa.eta, oa, Option.isSome_some, Option.isSome_none, Option.getD_some, Option.getD_none, if_true, Bool.false_eq_true, if_false])
  go_wp2_with fail
  refine (fright_c' _ _ _ _ _).mono ?_
  rintro e w2 ⟨rfl, hbw2⟩
  obtain ⟨hcw2, hfw2, hzw2⟩ := bcell hbw2
  (try simp only [World.size_alloc, World.size_setCell, World.size_drew] at hcw2 hfw2 hzw2)
  (try simp only [Tn.eta, Sp.eta, Fa.eta, ob, Option.isSome_some, Option.isSome_none, Option.getD_some, Option.getD_none, if_true, Bool.false_eq_true, if_false])
  go_wp2_with fail
  refine (fknown_c' _ _ _ _ _).mono ?_
  rintro e w3 ⟨rfl, hbw3⟩
  obtain ⟨hcw3, hfw3, hzw3⟩ := bcell hbw3
  (try simp only [World.size_alloc, World.size_setCell, World.size_drew] at hcw3 hfw3 hzw3)
  (try simp only [Tn.eta, Sp.eta, Fa.eta, hka, Option.isSome_some, Option.isSome_none, Option.getD_some, Option.getD_none, if_true, Bool.false_eq_true, if_false])
  go_wp2_with fail
  refine (fknown_c' _ _ _ _ _).mono ?_
  rintro e w4 ⟨rfl, hbw4⟩
  obtain ⟨hcw4, hfw4, hzw4⟩ := bcell hbw4
  (try simp only [World.size_alloc, World.size_setCell, World.size_drew] at hcw4 hfw4 hzw4)
  (try simp only [Tn.eta, Sp.eta, Fa.eta, hkb, Option.isSome_some, Option.isSome_none, Option.getD_some, Option.getD_none, if_true, Bool.false_eq_true, if_false])
  go_wp2_with fail
  refine (meet_c' _ _ _ _ _).mono ?_
  rintro e w5 ⟨rfl, hbw5⟩
  obtain ⟨hcw5, hfw5, hzw5⟩ := bcell hbw5
  (try simp only [World.size_alloc, World.size_setCell, World.size_drew] at hcw5 hfw5 hzw5)
  (try simp only [Tn.eta, Sp.eta, Fa.eta, hm, Option.isSome_some, Option.isSome_none, Option.getD_some, Option.getD_none, if_true, Bool.false_eq_true, if_false])
  go_wp2_with fail
  go_region
  (try go_wp2)
  refine bodyPost_ret (results_2fa (fn := Try.f35) rfl _ _ (w.heap.size + 1 + 1) (w.heap.size + 1 + 1 + 1) Fa.zero Fa.zero false rfl rfl rfl (by simp (maxDischargeDepth := 12) [*, go_sem, ↓IntWalk.iteOmega, Fa.zero]) (by simp (maxDischargeDepth := 12) [*, go_sem, ↓IntWalk.iteOmega, Fa.zero]) (by simp (maxDischargeDepth := 12) [*, go_sem, ↓IntWalk.iteOmega, Fa.zero]) (by simp (maxDischargeDepth := 12) [*, go_sem, ↓IntWalk.iteOmega, Fa.zero]) (by simp (maxDischargeDepth := 12) [*, go_sem, ↓IntWalk.iteOmega, Fa.zero]) (by simp (maxDischargeDepth := 12) [*, go_sem, ↓IntWalk.iteOmega, Fa.zero]) (by simp (maxDischargeDepth := 12) [*, go_sem, ↓IntWalk.iteOmega, Fa.zero]) (by simp (maxDischargeDepth := 12) [*, go_sem, ↓IntWalk.iteOmega, Fa.zero])) rfl ⟨rfl, (by repeat' (first | (with_reducible exact Below.refl _ _) | (with_reducible assumption) | (with_reducible refine Below.alloc ?_ ?_ _) | (with_reducible refine Below.setCell ?_ ?_ _) | (with_reducible refine Below.drew ?_) | (with_reducible refine below_dn ?_ _) | (with_reducible refine Below.trans ?_ (Below.mono (by assumption) ?_)) | go_size))⟩

set_option maxHeartbeats 2000000 in
theorem fif_ett (a b : Fa) (oa : Fa.ok a = true) (ob : Fa.ok b = true) (p : BitVec 64) (hka : Fa.known a = some p) (hkb : Fa.known b = none) (hm : Tn.meetOk a.t b.t = true) (R : Option (Fa × Fa)) (hR : Fa.ranges 16 ⟨Tn.meet a.t b.t, a.s⟩ ⟨Tn.meet a.t b.t, b.s⟩ = R) (w : World) : Calls Try.prog 35 #[.int .u8 16, .bool true, .agg #[.int .u64 (N a.t.v), .int .u64 (N a.t.m), .int .u64 (N a.s.lo), .int .u64 (N a.s.hi)], .agg #[.int .u64 (N b.t.v), .int .u64 (N b.t.m), .int .u64 (N b.s.lo), .int .u64 (N b.s.hi)]] w fun e w' => e = .returned (.tuple #[.agg #[.int .u64 (N (((Fa.if_ 16 true a b).getD (Fa.zero, Fa.zero)).1).t.v), .int .u64 (N (((Fa.if_ 16 true a b).getD (Fa.zero, Fa.zero)).1).t.m), .int .u64 (N (((Fa.if_ 16 true a b).getD (Fa.zero, Fa.zero)).1).s.lo), .int .u64 (N (((Fa.if_ 16 true a b).getD (Fa.zero, Fa.zero)).1).s.hi)], .agg #[.int .u64 (N (((Fa.if_ 16 true a b).getD (Fa.zero, Fa.zero)).2).t.v), .int .u64 (N (((Fa.if_ 16 true a b).getD (Fa.zero, Fa.zero)).2).t.m), .int .u64 (N (((Fa.if_ 16 true a b).getD (Fa.zero, Fa.zero)).2).s.lo), .int .u64 (N (((Fa.if_ 16 true a b).getD (Fa.zero, Fa.zero)).2).s.hi)], .bool (Fa.if_ 16 true a b).isSome]) ∧ Below w.heap.size w w' := by
  have hE : Fa.if_ 16 true a b = R := by rw [Fa.if_k oa ob (.inr hkb), Fa.if_lo (.inl rfl), if_pos rfl, hm]; exact hR
  rw [hE]
  clear hE
  go_enter Try.func35, Try.ntmps35
  obtain ⟨t, ht⟩ : ∃ t, Hid (Tn.meet a.t b.t = t) := ⟨_, Lib.hid rfl⟩
  rw [ht.out] at hR
  have hRh := Lib.hid hR
  clear hR
  go_wp2_with fail
  refine (fright_c' _ _ _ _ _).mono ?_
  rintro e w1 ⟨rfl, hbw1⟩
  obtain ⟨hcw1, hfw1, hzw1⟩ := bcell hbw1
  (try simp only [World.size_alloc, World.size_setCell, World.size_drew] at hcw1 hfw1 hzw1)
  (try simp only [Tn.eta, Sp.eta, Fa.eta, oa, Option.isSome_some, Option.isSome_none, Option.getD_some, Option.getD_none, if_true, Bool.false_eq_true, if_false])
  go_wp2_with fail
  refine (fright_c' _ _ _ _ _).mono ?_
  rintro e w2 ⟨rfl, hbw2⟩
  obtain ⟨hcw2, hfw2, hzw2⟩ := bcell hbw2
  (try simp only [World.size_alloc, World.size_setCell, World.size_drew] at hcw2 hfw2 hzw2)
  (try simp only [Tn.eta, Sp.eta, Fa.eta, ob, Option.isSome_some, Option.isSome_none, Option.getD_some, Option.getD_none, if_true, Bool.false_eq_true, if_false])
  go_wp2_with fail
  refine (fknown_c' _ _ _ _ _).mono ?_
  rintro e w3 ⟨rfl, hbw3⟩
  obtain ⟨hcw3, hfw3, hzw3⟩ := bcell hbw3
  (try simp only [World.size_alloc, World.size_setCell, World.size_drew] at hcw3 hfw3 hzw3)
  (try simp only [Tn.eta, Sp.eta, Fa.eta, hka, Option.isSome_some, Option.isSome_none, Option.getD_some, Option.getD_none, if_true, Bool.false_eq_true, if_false])
  go_wp2_with fail
  refine (fknown_c' _ _ _ _ _).mono ?_
  rintro e w4 ⟨rfl, hbw4⟩
  obtain ⟨hcw4, hfw4, hzw4⟩ := bcell hbw4
  (try simp only [World.size_alloc, World.size_setCell, World.size_drew] at hcw4 hfw4 hzw4)
  (try simp only [Tn.eta, Sp.eta, Fa.eta, hkb, Option.isSome_some, Option.isSome_none, Option.getD_some, Option.getD_none, if_true, Bool.false_eq_true, if_false])
  go_wp2_with fail
  refine (meet_c' _ _ _ _ _).mono ?_
  rintro e w5 ⟨rfl, hbw5⟩
  obtain ⟨hcw5, hfw5, hzw5⟩ := bcell hbw5
  (try simp only [World.size_alloc, World.size_setCell, World.size_drew] at hcw5 hfw5 hzw5)
  (try simp only [Tn.eta, Sp.eta, Fa.eta, hm, ht.out, Option.isSome_some, Option.isSome_none, Option.getD_some, Option.getD_none, if_true, Bool.false_eq_true, if_false])
  go_wp2_with fail
  go_region
  go_wp2_with fail
  refine (franges_c' _ _ _ _ _ _ _ _ _ _).mono ?_
  rintro e w6 ⟨rfl, hbw6⟩
  obtain ⟨hcw6, hfw6, hzw6⟩ := bcell hbw6
  (try simp only [World.size_alloc, World.size_setCell, World.size_drew] at hcw6 hfw6 hzw6)
  (try simp only [Tn.eta, Sp.eta, Fa.eta, hRh.out, Option.isSome_some, Option.isSome_none, Option.getD_some, Option.getD_none, if_true, Bool.false_eq_true, if_false])
  go_wp2
  refine bodyPost_ret (results_2fa (fn := Try.f35) rfl _ _ (w.heap.size + 1 + 1) (w.heap.size + 1 + 1 + 1) ((R.getD (Fa.zero, Fa.zero)).1) ((R.getD (Fa.zero, Fa.zero)).2) R.isSome rfl rfl rfl (by simp (maxDischargeDepth := 12) [*, go_sem, ↓IntWalk.iteOmega, Fa.zero]) (by simp (maxDischargeDepth := 12) [*, go_sem, ↓IntWalk.iteOmega, Fa.zero]) (by simp (maxDischargeDepth := 12) [*, go_sem, ↓IntWalk.iteOmega, Fa.zero]) (by simp (maxDischargeDepth := 12) [*, go_sem, ↓IntWalk.iteOmega, Fa.zero]) (by simp (maxDischargeDepth := 12) [*, go_sem, ↓IntWalk.iteOmega, Fa.zero]) (by simp (maxDischargeDepth := 12) [*, go_sem, ↓IntWalk.iteOmega, Fa.zero]) (by simp (maxDischargeDepth := 12) [*, go_sem, ↓IntWalk.iteOmega, Fa.zero]) (by simp (maxDischargeDepth := 12) [*, go_sem, ↓IntWalk.iteOmega, Fa.zero])) rfl ⟨rfl, (by repeat' (first | (with_reducible exact Below.refl _ _) | (with_reducible assumption) | (with_reducible refine Below.alloc ?_ ?_ _) | (with_reducible refine Below.setCell ?_ ?_ _) | (with_reducible refine Below.drew ?_) | (with_reducible refine below_dn ?_ _) | (with_reducible refine Below.trans ?_ (Below.mono (by assumption) ?_)) | go_size))⟩

set_option maxHeartbeats 2000000 in
theorem fif_rtt (op : Int) (a b : Fa) (oa : Fa.ok a = true) (ob : Fa.ok b = true) (p : BitVec 64) (hka : Fa.known a = some p) (hkb : Fa.known b = none) (n16 : ¬ op = 16) (R : Option (Fa × Fa)) (hR : Fa.ranges op a b = R) (w : World) : Calls Try.prog 35 #[.int .u8 op, .bool true, .agg #[.int .u64 (N a.t.v), .int .u64 (N a.t.m), .int .u64 (N a.s.lo), .int .u64 (N a.s.hi)], .agg #[.int .u64 (N b.t.v), .int .u64 (N b.t.m), .int .u64 (N b.s.lo), .int .u64 (N b.s.hi)]] w fun e w' => e = .returned (.tuple #[.agg #[.int .u64 (N (((Fa.if_ op true a b).getD (Fa.zero, Fa.zero)).1).t.v), .int .u64 (N (((Fa.if_ op true a b).getD (Fa.zero, Fa.zero)).1).t.m), .int .u64 (N (((Fa.if_ op true a b).getD (Fa.zero, Fa.zero)).1).s.lo), .int .u64 (N (((Fa.if_ op true a b).getD (Fa.zero, Fa.zero)).1).s.hi)], .agg #[.int .u64 (N (((Fa.if_ op true a b).getD (Fa.zero, Fa.zero)).2).t.v), .int .u64 (N (((Fa.if_ op true a b).getD (Fa.zero, Fa.zero)).2).t.m), .int .u64 (N (((Fa.if_ op true a b).getD (Fa.zero, Fa.zero)).2).s.lo), .int .u64 (N (((Fa.if_ op true a b).getD (Fa.zero, Fa.zero)).2).s.hi)], .bool (Fa.if_ op true a b).isSome]) ∧ Below w.heap.size w w' := by
  have hE : Fa.if_ op true a b = R := by rw [Fa.if_k oa ob (.inr hkb), Fa.if_lo (.inl rfl), if_neg n16]; exact hR
  rw [hE]
  clear hE
  go_enter Try.func35, Try.ntmps35
  have hRh := Lib.hid hR
  clear hR
  go_wp2_with fail
  refine (fright_c' _ _ _ _ _).mono ?_
  rintro e w1 ⟨rfl, hbw1⟩
  obtain ⟨hcw1, hfw1, hzw1⟩ := bcell hbw1
  (try simp only [World.size_alloc, World.size_setCell, World.size_drew] at hcw1 hfw1 hzw1)
  (try simp only [Tn.eta, Sp.eta, Fa.eta, oa, Option.isSome_some, Option.isSome_none, Option.getD_some, Option.getD_none, if_true, Bool.false_eq_true, if_false])
  go_wp2_with fail
  refine (fright_c' _ _ _ _ _).mono ?_
  rintro e w2 ⟨rfl, hbw2⟩
  obtain ⟨hcw2, hfw2, hzw2⟩ := bcell hbw2
  (try simp only [World.size_alloc, World.size_setCell, World.size_drew] at hcw2 hfw2 hzw2)
  (try simp only [Tn.eta, Sp.eta, Fa.eta, ob, Option.isSome_some, Option.isSome_none, Option.getD_some, Option.getD_none, if_true, Bool.false_eq_true, if_false])
  go_wp2_with fail
  refine (fknown_c' _ _ _ _ _).mono ?_
  rintro e w3 ⟨rfl, hbw3⟩
  obtain ⟨hcw3, hfw3, hzw3⟩ := bcell hbw3
  (try simp only [World.size_alloc, World.size_setCell, World.size_drew] at hcw3 hfw3 hzw3)
  (try simp only [Tn.eta, Sp.eta, Fa.eta, hka, Option.isSome_some, Option.isSome_none, Option.getD_some, Option.getD_none, if_true, Bool.false_eq_true, if_false])
  go_wp2_with fail
  refine (fknown_c' _ _ _ _ _).mono ?_
  rintro e w4 ⟨rfl, hbw4⟩
  obtain ⟨hcw4, hfw4, hzw4⟩ := bcell hbw4
  (try simp only [World.size_alloc, World.size_setCell, World.size_drew] at hcw4 hfw4 hzw4)
  (try simp only [Tn.eta, Sp.eta, Fa.eta, hkb, Option.isSome_some, Option.isSome_none, Option.getD_some, Option.getD_none, if_true, Bool.false_eq_true, if_false])
  go_wp2_with fail
  refine (franges_c' _ _ _ _ _ _ _ _ _ _).mono ?_
  rintro e w6 ⟨rfl, hbw6⟩
  obtain ⟨hcw6, hfw6, hzw6⟩ := bcell hbw6
  (try simp only [World.size_alloc, World.size_setCell, World.size_drew] at hcw6 hfw6 hzw6)
  (try simp only [Tn.eta, Sp.eta, Fa.eta, hRh.out, Option.isSome_some, Option.isSome_none, Option.getD_some, Option.getD_none, if_true, Bool.false_eq_true, if_false])
  go_wp2
  refine bodyPost_ret (results_2fa (fn := Try.f35) rfl _ _ (w.heap.size + 1 + 1) (w.heap.size + 1 + 1 + 1) ((R.getD (Fa.zero, Fa.zero)).1) ((R.getD (Fa.zero, Fa.zero)).2) R.isSome rfl rfl rfl (by simp (maxDischargeDepth := 12) [*, go_sem, ↓IntWalk.iteOmega, Fa.zero]) (by simp (maxDischargeDepth := 12) [*, go_sem, ↓IntWalk.iteOmega, Fa.zero]) (by simp (maxDischargeDepth := 12) [*, go_sem, ↓IntWalk.iteOmega, Fa.zero]) (by simp (maxDischargeDepth := 12) [*, go_sem, ↓IntWalk.iteOmega, Fa.zero]) (by simp (maxDischargeDepth := 12) [*, go_sem, ↓IntWalk.iteOmega, Fa.zero]) (by simp (maxDischargeDepth := 12) [*, go_sem, ↓IntWalk.iteOmega, Fa.zero]) (by simp (maxDischargeDepth := 12) [*, go_sem, ↓IntWalk.iteOmega, Fa.zero]) (by simp (maxDischargeDepth := 12) [*, go_sem, ↓IntWalk.iteOmega, Fa.zero])) rfl ⟨rfl, (by repeat' (first | (with_reducible exact Below.refl _ _) | (with_reducible assumption) | (with_reducible refine Below.alloc ?_ ?_ _) | (with_reducible refine Below.setCell ?_ ?_ _) | (with_reducible refine Below.drew ?_) | (with_reducible refine below_dn ?_ _) | (with_reducible refine Below.trans ?_ (Below.mono (by assumption) ?_)) | go_size))⟩

set_option maxHeartbeats 2000000 in
theorem fif_mtf (a b : Fa) (oa : Fa.ok a = true) (ob : Fa.ok b = true) (p : BitVec 64) (hka : Fa.known a = some p) (hkb : Fa.known b = none) (hl : decide (4294967296#64 ≤ Sp.mx a.s.hi b.s.hi) = false) (hm : Tn.meetOk a.t b.t = false) (w : World) : Calls Try.prog 35 #[.int .u8 16, .bool false, .agg #[.int .u64 (N a.t.v), .int .u64 (N a.t.m), .int .u64 (N a.s.lo), .int .u64 (N a.s.hi)], .agg #[.int .u64 (N b.t.v), .int .u64 (N b.t.m), .int .u64 (N b.s.lo), .int .u64 (N b.s.hi)]] w fun e w' => e = .returned (.tuple #[.agg #[.int .u64 (N (((Fa.if_ 16 false a b).getD (Fa.zero, Fa.zero)).1).t.v), .int .u64 (N (((Fa.if_ 16 false a b).getD (Fa.zero, Fa.zero)).1).t.m), .int .u64 (N (((Fa.if_ 16 false a b).getD (Fa.zero, Fa.zero)).1).s.lo), .int .u64 (N (((Fa.if_ 16 false a b).getD (Fa.zero, Fa.zero)).1).s.hi)], .agg #[.int .u64 (N (((Fa.if_ 16 false a b).getD (Fa.zero, Fa.zero)).2).t.v), .int .u64 (N (((Fa.if_ 16 false a b).getD (Fa.zero, Fa.zero)).2).t.m), .int .u64 (N (((Fa.if_ 16 false a b).getD (Fa.zero, Fa.zero)).2).s.lo), .int .u64 (N (((Fa.if_ 16 false a b).getD (Fa.zero, Fa.zero)).2).s.hi)], .bool (Fa.if_ 16 false a b).isSome]) ∧ Below w.heap.size w w' := by
  have hE : Fa.if_ 16 false a b = none := by rw [Fa.if_k oa ob (.inr hkb), Fa.if_lo (.inr hl), if_pos rfl, hm]; rfl
  rw [hE]
  clear hE
  go_enter Try.func35, Try.ntmps35
  go_wp2_with fail
  refine (fright_c' _ _ _ _ _).mono ?_
  rintro e w1 ⟨rfl, hbw1⟩
  obtain ⟨hcw1, hfw1, hzw1⟩ := bcell hbw1
  (try simp only [World.size_alloc, World.size_setCell, World.size_drew] at hcw1 hfw1 hzw1)
  (try simp only [Tn.eta, Sp.eta, Fa.eta, oa, Option.isSome_some, Option.isSome_none, Option.getD_some, Option.getD_none, if_true, Bool.false_eq_true, if_false])
  go_wp2_with fail
  refine (fright_c' _ _ _ _ _).mono ?_
  rintro e w2 ⟨rfl, hbw2⟩
  obtain ⟨hcw2, hfw2, hzw2⟩ := bcell hbw2
  (try simp only [World.size_alloc, World.size_setCell, World.size_drew] at hcw2 hfw2 hzw2)
  (try simp only [Tn.eta, Sp.eta, Fa.eta, ob, Option.isSome_some, Option.isSome_none, Option.getD_some, Option.getD_none, if_true, Bool.false_eq_true, if_false])
  go_wp2_with fail
  refine (fknown_c' _ _ _ _ _).mono ?_
  rintro e w3 ⟨rfl, hbw3⟩
  obtain ⟨hcw3, hfw3, hzw3⟩ := bcell hbw3
  (try simp only [World.size_alloc, World.size_setCell, World.size_drew] at hcw3 hfw3 hzw3)
  (try simp only [Tn.eta, Sp.eta, Fa.eta, hka, Option.isSome_some, Option.isSome_none, Option.getD_some, Option.getD_none, if_true, Bool.false_eq_true, if_false])
  go_wp2_with fail
  refine (fknown_c' _ _ _ _ _).mono ?_
  rintro e w4 ⟨rfl, hbw4⟩
  obtain ⟨hcw4, hfw4, hzw4⟩ := bcell hbw4
  (try simp only [World.size_alloc, World.size_setCell, World.size_drew] at hcw4 hfw4 hzw4)
  (try simp only [Tn.eta, Sp.eta, Fa.eta, hkb, Option.isSome_some, Option.isSome_none, Option.getD_some, Option.getD_none, if_true, Bool.false_eq_true, if_false])
  go_wp2_with fail
  refine (meet_c' _ _ _ _ _).mono ?_
  rintro e w5 ⟨rfl, hbw5⟩
  obtain ⟨hcw5, hfw5, hzw5⟩ := bcell hbw5
  (try simp only [World.size_alloc, World.size_setCell, World.size_drew] at hcw5 hfw5 hzw5)
  (try simp only [Tn.eta, Sp.eta, Fa.eta, hm, Option.isSome_some, Option.isSome_none, Option.getD_some, Option.getD_none, if_true, Bool.false_eq_true, if_false])
  go_wp2_with fail
  go_region
  (try go_wp2)
  refine bodyPost_ret (results_2fa (fn := Try.f35) rfl _ _ (w.heap.size + 1 + 1) (w.heap.size + 1 + 1 + 1) Fa.zero Fa.zero false rfl rfl rfl (by simp (maxDischargeDepth := 12) [*, go_sem, ↓IntWalk.iteOmega, Fa.zero]) (by simp (maxDischargeDepth := 12) [*, go_sem, ↓IntWalk.iteOmega, Fa.zero]) (by simp (maxDischargeDepth := 12) [*, go_sem, ↓IntWalk.iteOmega, Fa.zero]) (by simp (maxDischargeDepth := 12) [*, go_sem, ↓IntWalk.iteOmega, Fa.zero]) (by simp (maxDischargeDepth := 12) [*, go_sem, ↓IntWalk.iteOmega, Fa.zero]) (by simp (maxDischargeDepth := 12) [*, go_sem, ↓IntWalk.iteOmega, Fa.zero]) (by simp (maxDischargeDepth := 12) [*, go_sem, ↓IntWalk.iteOmega, Fa.zero]) (by simp (maxDischargeDepth := 12) [*, go_sem, ↓IntWalk.iteOmega, Fa.zero])) rfl ⟨rfl, (by repeat' (first | (with_reducible exact Below.refl _ _) | (with_reducible assumption) | (with_reducible refine Below.alloc ?_ ?_ _) | (with_reducible refine Below.setCell ?_ ?_ _) | (with_reducible refine Below.drew ?_) | (with_reducible refine below_dn ?_ _) | (with_reducible refine Below.trans ?_ (Below.mono (by assumption) ?_)) | go_size))⟩

set_option maxHeartbeats 2000000 in
theorem fif_etf (a b : Fa) (oa : Fa.ok a = true) (ob : Fa.ok b = true) (p : BitVec 64) (hka : Fa.known a = some p) (hkb : Fa.known b = none) (hl : decide (4294967296#64 ≤ Sp.mx a.s.hi b.s.hi) = false) (hm : Tn.meetOk a.t b.t = true) (R : Option (Fa × Fa)) (hR : Fa.ranges 16 ⟨Tn.meet a.t b.t, a.s⟩ ⟨Tn.meet a.t b.t, b.s⟩ = R) (w : World) : Calls Try.prog 35 #[.int .u8 16, .bool false, .agg #[.int .u64 (N a.t.v), .int .u64 (N a.t.m), .int .u64 (N a.s.lo), .int .u64 (N a.s.hi)], .agg #[.int .u64 (N b.t.v), .int .u64 (N b.t.m), .int .u64 (N b.s.lo), .int .u64 (N b.s.hi)]] w fun e w' => e = .returned (.tuple #[.agg #[.int .u64 (N (((Fa.if_ 16 false a b).getD (Fa.zero, Fa.zero)).1).t.v), .int .u64 (N (((Fa.if_ 16 false a b).getD (Fa.zero, Fa.zero)).1).t.m), .int .u64 (N (((Fa.if_ 16 false a b).getD (Fa.zero, Fa.zero)).1).s.lo), .int .u64 (N (((Fa.if_ 16 false a b).getD (Fa.zero, Fa.zero)).1).s.hi)], .agg #[.int .u64 (N (((Fa.if_ 16 false a b).getD (Fa.zero, Fa.zero)).2).t.v), .int .u64 (N (((Fa.if_ 16 false a b).getD (Fa.zero, Fa.zero)).2).t.m), .int .u64 (N (((Fa.if_ 16 false a b).getD (Fa.zero, Fa.zero)).2).s.lo), .int .u64 (N (((Fa.if_ 16 false a b).getD (Fa.zero, Fa.zero)).2).s.hi)], .bool (Fa.if_ 16 false a b).isSome]) ∧ Below w.heap.size w w' := by
  have hE : Fa.if_ 16 false a b = R := by rw [Fa.if_k oa ob (.inr hkb), Fa.if_lo (.inr hl), if_pos rfl, hm]; exact hR
  rw [hE]
  clear hE
  go_enter Try.func35, Try.ntmps35
  obtain ⟨t, ht⟩ : ∃ t, Hid (Tn.meet a.t b.t = t) := ⟨_, Lib.hid rfl⟩
  rw [ht.out] at hR
  have hRh := Lib.hid hR
  clear hR
  go_wp2_with fail
  refine (fright_c' _ _ _ _ _).mono ?_
  rintro e w1 ⟨rfl, hbw1⟩
  obtain ⟨hcw1, hfw1, hzw1⟩ := bcell hbw1
  (try simp only [World.size_alloc, World.size_setCell, World.size_drew] at hcw1 hfw1 hzw1)
  (try simp only [Tn.eta, Sp.eta, Fa.eta, oa, Option.isSome_some, Option.isSome_none, Option.getD_some, Option.getD_none, if_true, Bool.false_eq_true, if_false])
  go_wp2_with fail
  refine (fright_c' _ _ _ _ _).mono ?_
  rintro e w2 ⟨rfl, hbw2⟩
  obtain ⟨hcw2, hfw2, hzw2⟩ := bcell hbw2
  (try simp only [World.size_alloc, World.size_setCell, World.size_drew] at hcw2 hfw2 hzw2)
  (try simp only [Tn.eta, Sp.eta, Fa.eta, ob, Option.isSome_some, Option.isSome_none, Option.getD_some, Option.getD_none, if_true, Bool.false_eq_true, if_false])
  go_wp2_with fail
  refine (fknown_c' _ _ _ _ _).mono ?_
  rintro e w3 ⟨rfl, hbw3⟩
  obtain ⟨hcw3, hfw3, hzw3⟩ := bcell hbw3
  (try simp only [World.size_alloc, World.size_setCell, World.size_drew] at hcw3 hfw3 hzw3)
  (try simp only [Tn.eta, Sp.eta, Fa.eta, hka, Option.isSome_some, Option.isSome_none, Option.getD_some, Option.getD_none, if_true, Bool.false_eq_true, if_false])
  go_wp2_with fail
  refine (fknown_c' _ _ _ _ _).mono ?_
  rintro e w4 ⟨rfl, hbw4⟩
  obtain ⟨hcw4, hfw4, hzw4⟩ := bcell hbw4
  (try simp only [World.size_alloc, World.size_setCell, World.size_drew] at hcw4 hfw4 hzw4)
  (try simp only [Tn.eta, Sp.eta, Fa.eta, hkb, Option.isSome_some, Option.isSome_none, Option.getD_some, Option.getD_none, if_true, Bool.false_eq_true, if_false])
  go_wp2_with fail
  refine (meet_c' _ _ _ _ _).mono ?_
  rintro e w5 ⟨rfl, hbw5⟩
  obtain ⟨hcw5, hfw5, hzw5⟩ := bcell hbw5
  (try simp only [World.size_alloc, World.size_setCell, World.size_drew] at hcw5 hfw5 hzw5)
  (try simp only [Tn.eta, Sp.eta, Fa.eta, hm, ht.out, Option.isSome_some, Option.isSome_none, Option.getD_some, Option.getD_none, if_true, Bool.false_eq_true, if_false])
  go_wp2_with fail
  go_region
  go_wp2_with fail
  refine (franges_c' _ _ _ _ _ _ _ _ _ _).mono ?_
  rintro e w6 ⟨rfl, hbw6⟩
  obtain ⟨hcw6, hfw6, hzw6⟩ := bcell hbw6
  (try simp only [World.size_alloc, World.size_setCell, World.size_drew] at hcw6 hfw6 hzw6)
  (try simp only [Tn.eta, Sp.eta, Fa.eta, hRh.out, Option.isSome_some, Option.isSome_none, Option.getD_some, Option.getD_none, if_true, Bool.false_eq_true, if_false])
  go_wp2
  refine bodyPost_ret (results_2fa (fn := Try.f35) rfl _ _ (w.heap.size + 1 + 1) (w.heap.size + 1 + 1 + 1) ((R.getD (Fa.zero, Fa.zero)).1) ((R.getD (Fa.zero, Fa.zero)).2) R.isSome rfl rfl rfl (by simp (maxDischargeDepth := 12) [*, go_sem, ↓IntWalk.iteOmega, Fa.zero]) (by simp (maxDischargeDepth := 12) [*, go_sem, ↓IntWalk.iteOmega, Fa.zero]) (by simp (maxDischargeDepth := 12) [*, go_sem, ↓IntWalk.iteOmega, Fa.zero]) (by simp (maxDischargeDepth := 12) [*, go_sem, ↓IntWalk.iteOmega, Fa.zero]) (by simp (maxDischargeDepth := 12) [*, go_sem, ↓IntWalk.iteOmega, Fa.zero]) (by simp (maxDischargeDepth := 12) [*, go_sem, ↓IntWalk.iteOmega, Fa.zero]) (by simp (maxDischargeDepth := 12) [*, go_sem, ↓IntWalk.iteOmega, Fa.zero]) (by simp (maxDischargeDepth := 12) [*, go_sem, ↓IntWalk.iteOmega, Fa.zero])) rfl ⟨rfl, (by repeat' (first | (with_reducible exact Below.refl _ _) | (with_reducible assumption) | (with_reducible refine Below.alloc ?_ ?_ _) | (with_reducible refine Below.setCell ?_ ?_ _) | (with_reducible refine Below.drew ?_) | (with_reducible refine below_dn ?_ _) | (with_reducible refine Below.trans ?_ (Below.mono (by assumption) ?_)) | go_size))⟩

set_option maxHeartbeats 2000000 in
theorem fif_rtf (op : Int) (a b : Fa) (oa : Fa.ok a = true) (ob : Fa.ok b = true) (p : BitVec 64) (hka : Fa.known a = some p) (hkb : Fa.known b = none) (hl : decide (4294967296#64 ≤ Sp.mx a.s.hi b.s.hi) = false) (n16 : ¬ op = 16) (R : Option (Fa × Fa)) (hR : Fa.ranges op a b = R) (w : World) : Calls Try.prog 35 #[.int .u8 op, .bool false, .agg #[.int .u64 (N a.t.v), .int .u64 (N a.t.m), .int .u64 (N a.s.lo), .int .u64 (N a.s.hi)], .agg #[.int .u64 (N b.t.v), .int .u64 (N b.t.m), .int .u64 (N b.s.lo), .int .u64 (N b.s.hi)]] w fun e w' => e = .returned (.tuple #[.agg #[.int .u64 (N (((Fa.if_ op false a b).getD (Fa.zero, Fa.zero)).1).t.v), .int .u64 (N (((Fa.if_ op false a b).getD (Fa.zero, Fa.zero)).1).t.m), .int .u64 (N (((Fa.if_ op false a b).getD (Fa.zero, Fa.zero)).1).s.lo), .int .u64 (N (((Fa.if_ op false a b).getD (Fa.zero, Fa.zero)).1).s.hi)], .agg #[.int .u64 (N (((Fa.if_ op false a b).getD (Fa.zero, Fa.zero)).2).t.v), .int .u64 (N (((Fa.if_ op false a b).getD (Fa.zero, Fa.zero)).2).t.m), .int .u64 (N (((Fa.if_ op false a b).getD (Fa.zero, Fa.zero)).2).s.lo), .int .u64 (N (((Fa.if_ op false a b).getD (Fa.zero, Fa.zero)).2).s.hi)], .bool (Fa.if_ op false a b).isSome]) ∧ Below w.heap.size w w' := by
  have hE : Fa.if_ op false a b = R := by rw [Fa.if_k oa ob (.inr hkb), Fa.if_lo (.inr hl), if_neg n16]; exact hR
  rw [hE]
  clear hE
  go_enter Try.func35, Try.ntmps35
  have hRh := Lib.hid hR
  clear hR
  go_wp2_with fail
  refine (fright_c' _ _ _ _ _).mono ?_
  rintro e w1 ⟨rfl, hbw1⟩
  obtain ⟨hcw1, hfw1, hzw1⟩ := bcell hbw1
  (try simp only [World.size_alloc, World.size_setCell, World.size_drew] at hcw1 hfw1 hzw1)
  (try simp only [Tn.eta, Sp.eta, Fa.eta, oa, Option.isSome_some, Option.isSome_none, Option.getD_some, Option.getD_none, if_true, Bool.false_eq_true, if_false])
  go_wp2_with fail
  refine (fright_c' _ _ _ _ _).mono ?_
  rintro e w2 ⟨rfl, hbw2⟩
  obtain ⟨hcw2, hfw2, hzw2⟩ := bcell hbw2
  (try simp only [World.size_alloc, World.size_setCell, World.size_drew] at hcw2 hfw2 hzw2)
  (try simp only [Tn.eta, Sp.eta, Fa.eta, ob, Option.isSome_some, Option.isSome_none, Option.getD_some, Option.getD_none, if_true, Bool.false_eq_true, if_false])
  go_wp2_with fail
  refine (fknown_c' _ _ _ _ _).mono ?_
  rintro e w3 ⟨rfl, hbw3⟩
  obtain ⟨hcw3, hfw3, hzw3⟩ := bcell hbw3
  (try simp only [World.size_alloc, World.size_setCell, World.size_drew] at hcw3 hfw3 hzw3)
  (try simp only [Tn.eta, Sp.eta, Fa.eta, hka, Option.isSome_some, Option.isSome_none, Option.getD_some, Option.getD_none, if_true, Bool.false_eq_true, if_false])
  go_wp2_with fail
  refine (fknown_c' _ _ _ _ _).mono ?_
  rintro e w4 ⟨rfl, hbw4⟩
  obtain ⟨hcw4, hfw4, hzw4⟩ := bcell hbw4
  (try simp only [World.size_alloc, World.size_setCell, World.size_drew] at hcw4 hfw4 hzw4)
  (try simp only [Tn.eta, Sp.eta, Fa.eta, hkb, Option.isSome_some, Option.isSome_none, Option.getD_some, Option.getD_none, if_true, Bool.false_eq_true, if_false])
  go_wp2_with fail
  refine (franges_c' _ _ _ _ _ _ _ _ _ _).mono ?_
  rintro e w6 ⟨rfl, hbw6⟩
  obtain ⟨hcw6, hfw6, hzw6⟩ := bcell hbw6
  (try simp only [World.size_alloc, World.size_setCell, World.size_drew] at hcw6 hfw6 hzw6)
  (try simp only [Tn.eta, Sp.eta, Fa.eta, hRh.out, Option.isSome_some, Option.isSome_none, Option.getD_some, Option.getD_none, if_true, Bool.false_eq_true, if_false])
  go_wp2
  refine bodyPost_ret (results_2fa (fn := Try.f35) rfl _ _ (w.heap.size + 1 + 1) (w.heap.size + 1 + 1 + 1) ((R.getD (Fa.zero, Fa.zero)).1) ((R.getD (Fa.zero, Fa.zero)).2) R.isSome rfl rfl rfl (by simp (maxDischargeDepth := 12) [*, go_sem, ↓IntWalk.iteOmega, Fa.zero]) (by simp (maxDischargeDepth := 12) [*, go_sem, ↓IntWalk.iteOmega, Fa.zero]) (by simp (maxDischargeDepth := 12) [*, go_sem, ↓IntWalk.iteOmega, Fa.zero]) (by simp (maxDischargeDepth := 12) [*, go_sem, ↓IntWalk.iteOmega, Fa.zero]) (by simp (maxDischargeDepth := 12) [*, go_sem, ↓IntWalk.iteOmega, Fa.zero]) (by simp (maxDischargeDepth := 12) [*, go_sem, ↓IntWalk.iteOmega, Fa.zero]) (by simp (maxDischargeDepth := 12) [*, go_sem, ↓IntWalk.iteOmega, Fa.zero]) (by simp (maxDischargeDepth := 12) [*, go_sem, ↓IntWalk.iteOmega, Fa.zero])) rfl ⟨rfl, (by repeat' (first | (with_reducible exact Below.refl _ _) | (with_reducible assumption) | (with_reducible refine Below.alloc ?_ ?_ _) | (with_reducible refine Below.setCell ?_ ?_ _) | (with_reducible refine Below.drew ?_) | (with_reducible refine below_dn ?_ _) | (with_reducible refine Below.trans ?_ (Below.mono (by assumption) ?_)) | go_size))⟩

theorem fif_c (op : Int) (wd : Bool) (a b : Fa) (w : World) : Calls Try.prog 35 #[.int .u8 op, .bool wd, .agg #[.int .u64 (N a.t.v), .int .u64 (N a.t.m), .int .u64 (N a.s.lo), .int .u64 (N a.s.hi)], .agg #[.int .u64 (N b.t.v), .int .u64 (N b.t.m), .int .u64 (N b.s.lo), .int .u64 (N b.s.hi)]] w fun e w' => e = .returned (.tuple #[.agg #[.int .u64 (N (((Fa.if_ op wd a b).getD (Fa.zero, Fa.zero)).1).t.v), .int .u64 (N (((Fa.if_ op wd a b).getD (Fa.zero, Fa.zero)).1).t.m), .int .u64 (N (((Fa.if_ op wd a b).getD (Fa.zero, Fa.zero)).1).s.lo), .int .u64 (N (((Fa.if_ op wd a b).getD (Fa.zero, Fa.zero)).1).s.hi)], .agg #[.int .u64 (N (((Fa.if_ op wd a b).getD (Fa.zero, Fa.zero)).2).t.v), .int .u64 (N (((Fa.if_ op wd a b).getD (Fa.zero, Fa.zero)).2).t.m), .int .u64 (N (((Fa.if_ op wd a b).getD (Fa.zero, Fa.zero)).2).s.lo), .int .u64 (N (((Fa.if_ op wd a b).getD (Fa.zero, Fa.zero)).2).s.hi)], .bool (Fa.if_ op wd a b).isSome]) ∧ Below w.heap.size w w' := by
  cases oa : Fa.ok a
  · exact fif_n1 op wd a b oa w
  cases ob : Fa.ok b
  · exact fif_n2 op wd a b oa ob w
  rcases hka : Fa.known a with _ | p
  · cases wd
    · cases hl : decide (4294967296#64 ≤ Sp.mx a.s.hi b.s.hi)
      · by_cases n16 : op = 16
        · subst n16
          cases hm : Tn.meetOk a.t b.t
          · exact fif_mff a b oa ob hka hl hm w
          · exact fif_eff a b oa ob hka hl hm _ rfl w
        · exact fif_rff op a b oa ob hka hl n16 _ rfl w
      · exact fif_hif op a b oa ob hka hl w
    · by_cases n16 : op = 16
      · subst n16
        cases hm : Tn.meetOk a.t b.t
        · exact fif_mft a b oa ob hka hm w
        · exact fif_eft a b oa ob hka hm _ rfl w
      · exact fif_rft op a b oa ob hka n16 _ rfl w
  rcases hkb : Fa.known b with _ | q
  · cases wd
    · cases hl : decide (4294967296#64 ≤ Sp.mx a.s.hi b.s.hi)
      · by_cases n16 : op = 16
        · subst n16
          cases hm : Tn.meetOk a.t b.t
          · exact fif_mtf a b oa ob p hka hkb hl hm w
          · exact fif_etf a b oa ob p hka hkb hl hm _ rfl w
        · exact fif_rtf op a b oa ob p hka hkb hl n16 _ rfl w
      · exact fif_hit op a b oa ob p hka hkb hl w
    · by_cases n16 : op = 16
      · subst n16
        cases hm : Tn.meetOk a.t b.t
        · exact fif_mtt a b oa ob p hka hkb hm w
        · exact fif_ett a b oa ob p hka hkb hm _ rfl w
      · exact fif_rtt op a b oa ob p hka hkb n16 _ rfl w
  rcases hc : Cond.is op wd p q with _ | x
  · exact fif_kn op wd a b oa ob p q hka hkb hc w
  cases x
  · exact fif_kf op wd a b oa ob p q hka hkb hc w
  · exact fif_kt op wd a b oa ob p q hka hkb hc w

theorem fif_c' (x0 : Int) (x1 : Bool) (x2 y2 z2 u2 : BitVec 64) (x3 y3 z3 u3 : BitVec 64) (w : World) : Calls Try.prog 35 #[.int .u8 x0, .bool x1, .agg #[.int .u64 (N x2), .int .u64 (N y2), .int .u64 (N z2), .int .u64 (N u2)], .agg #[.int .u64 (N x3), .int .u64 (N y3), .int .u64 (N z3), .int .u64 (N u3)]] w fun e w' => e = .returned (.tuple #[.agg #[.int .u64 (N (((Fa.if_ x0 x1 (⟨⟨x2, y2⟩, ⟨z2, u2⟩⟩ : Fa) (⟨⟨x3, y3⟩, ⟨z3, u3⟩⟩ : Fa)).getD (Fa.zero, Fa.zero)).1).t.v), .int .u64 (N (((Fa.if_ x0 x1 (⟨⟨x2, y2⟩, ⟨z2, u2⟩⟩ : Fa) (⟨⟨x3, y3⟩, ⟨z3, u3⟩⟩ : Fa)).getD (Fa.zero, Fa.zero)).1).t.m), .int .u64 (N (((Fa.if_ x0 x1 (⟨⟨x2, y2⟩, ⟨z2, u2⟩⟩ : Fa) (⟨⟨x3, y3⟩, ⟨z3, u3⟩⟩ : Fa)).getD (Fa.zero, Fa.zero)).1).s.lo), .int .u64 (N (((Fa.if_ x0 x1 (⟨⟨x2, y2⟩, ⟨z2, u2⟩⟩ : Fa) (⟨⟨x3, y3⟩, ⟨z3, u3⟩⟩ : Fa)).getD (Fa.zero, Fa.zero)).1).s.hi)], .agg #[.int .u64 (N (((Fa.if_ x0 x1 (⟨⟨x2, y2⟩, ⟨z2, u2⟩⟩ : Fa) (⟨⟨x3, y3⟩, ⟨z3, u3⟩⟩ : Fa)).getD (Fa.zero, Fa.zero)).2).t.v), .int .u64 (N (((Fa.if_ x0 x1 (⟨⟨x2, y2⟩, ⟨z2, u2⟩⟩ : Fa) (⟨⟨x3, y3⟩, ⟨z3, u3⟩⟩ : Fa)).getD (Fa.zero, Fa.zero)).2).t.m), .int .u64 (N (((Fa.if_ x0 x1 (⟨⟨x2, y2⟩, ⟨z2, u2⟩⟩ : Fa) (⟨⟨x3, y3⟩, ⟨z3, u3⟩⟩ : Fa)).getD (Fa.zero, Fa.zero)).2).s.lo), .int .u64 (N (((Fa.if_ x0 x1 (⟨⟨x2, y2⟩, ⟨z2, u2⟩⟩ : Fa) (⟨⟨x3, y3⟩, ⟨z3, u3⟩⟩ : Fa)).getD (Fa.zero, Fa.zero)).2).s.hi)], .bool (Fa.if_ x0 x1 (⟨⟨x2, y2⟩, ⟨z2, u2⟩⟩ : Fa) (⟨⟨x3, y3⟩, ⟨z3, u3⟩⟩ : Fa)).isSome]) ∧ Below w.heap.size w w' := by
  exact fif_c x0 x1 (⟨⟨x2, y2⟩, ⟨z2, u2⟩⟩ : Fa) (⟨⟨x3, y3⟩, ⟨z3, u3⟩⟩ : Fa) w

end Hk
