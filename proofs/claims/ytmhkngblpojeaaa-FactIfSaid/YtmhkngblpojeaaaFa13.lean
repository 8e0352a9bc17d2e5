/- Package fact: ranges; old memory is as it was. No condition but those in each statement. -/
import Derived.Test.YtmhkngblpojeaaaProg
import Derived.Test.YtmhkngblpojeaaaGp
import Derived.Test.YtmhkngblpojeaaaGf
import Derived.Test.YtmhkngblpojeaaaGm
import Derived.Test.YtmhkngblpojeaaaSp4
import Derived.Test.YtmhkngblpojeaaaGd
import Derived.Test.YtmhkngblpojeaaaGl
namespace Hk
open Go Go.RowKit Go.Proofs
set_option linter.unusedSimpArgs false
set_option linter.unusedVariables false
set_option maxRecDepth 100000
attribute [go_sem] Tn.eta
theorem results_2fa {fn : Func} {p q r : Tmp} (h : fn.results = #[.cell p 29, .cell q 29, .tmp r]) (tmps : Array Value) (w : World) (g k : Nat) (x y : Fa) (c : Bool)
    (hp : tmps.getD p undef = .pointer (some ⟨g, 0, none⟩)) (hq : tmps.getD q undef = .pointer (some ⟨k, 0, none⟩)) (hr : tmps.getD r undef = .bool c)
    (a0 : w.cell? ⟨g, 0, none⟩ = some (.int .u64 (N x.t.v))) (a1 : w.cell? ⟨g, 1, none⟩ = some (.int .u64 (N x.t.m))) (a2 : w.cell? ⟨g, 2, none⟩ = some (.int .u64 (N x.s.lo))) (a3 : w.cell? ⟨g, 3, none⟩ = some (.int .u64 (N x.s.hi)))
    (b0 : w.cell? ⟨k, 0, none⟩ = some (.int .u64 (N y.t.v))) (b1 : w.cell? ⟨k, 1, none⟩ = some (.int .u64 (N y.t.m))) (b2 : w.cell? ⟨k, 2, none⟩ = some (.int .u64 (N y.s.lo))) (b3 : w.cell? ⟨k, 3, none⟩ = some (.int .u64 (N y.s.hi))) :
    Sem.run Try.prog (results fn tmps) w = .ok (.tuple #[.agg #[.int .u64 (N x.t.v), .int .u64 (N x.t.m), .int .u64 (N x.s.lo), .int .u64 (N x.s.hi)], .agg #[.int .u64 (N y.t.v), .int .u64 (N y.t.m), .int .u64 (N y.s.lo), .int .u64 (N y.s.hi)], .bool c]) w := by
  have hp' : tmps[p]?.getD undef = .pointer (some ⟨g, 0, none⟩) := by simpa using hp
  have hq' : tmps[q]?.getD undef = .pointer (some ⟨k, 0, none⟩) := by simpa using hq
  have hr' : tmps[r]?.getD undef = .bool c := by simpa using hr
  simp only [results, h]
  simp [hp', hq', hr', a0, a1, a2, a3, b0, b1, b2, b3, go_sem]

set_option maxHeartbeats 2000000 in
theorem frg_n1 (op : Int) (a b : Fa) (h1 : Sp.if_ op a.s b.s = none) (w : World) : Calls Try.prog 73 #[.int .u8 op, .agg #[.int .u64 (N a.t.v), .int .u64 (N a.t.m), .int .u64 (N a.s.lo), .int .u64 (N a.s.hi)], .agg #[.int .u64 (N b.t.v), .int .u64 (N b.t.m), .int .u64 (N b.s.lo), .int .u64 (N b.s.hi)]] w fun e w' => e = .returned (.tuple #[.agg #[.int .u64 (N (((Fa.ranges op a b).getD (Fa.zero, Fa.zero)).1).t.v), .int .u64 (N (((Fa.ranges op a b).getD (Fa.zero, Fa.zero)).1).t.m), .int .u64 (N (((Fa.ranges op a b).getD (Fa.zero, Fa.zero)).1).s.lo), .int .u64 (N (((Fa.ranges op a b).getD (Fa.zero, Fa.zero)).1).s.hi)], .agg #[.int .u64 (N (((Fa.ranges op a b).getD (Fa.zero, Fa.zero)).2).t.v), .int .u64 (N (((Fa.ranges op a b).getD (Fa.zero, Fa.zero)).2).t.m), .int .u64 (N (((Fa.ranges op a b).getD (Fa.zero, Fa.zero)).2).s.lo), .int .u64 (N (((Fa.ranges op a b).getD (Fa.zero, Fa.zero)).2).s.hi)], .bool (Fa.ranges op a b).isSome]) ∧ Below w.heap.size w w' := by
  have hR : Fa.ranges op a b = none := by unfold Fa.ranges; simp [*]
  rw [hR]
  clear hR
  go_enter Try.func73, Try.ntmps73
  go_wp2_with fail
  refine (sif_c' _ _ _ _ _ _).mono ?_
  rintro e w1 ⟨rfl, hbw1⟩
  obtain ⟨hcw1, hfw1, hzw1⟩ := bcell hbw1
  (try simp only [World.size_alloc, World.size_setCell, World.size_drew] at hcw1 hfw1 hzw1)
  (try simp only [Tn.eta, Sp.eta, Fa.eta, h1, Option.isSome_some, Option.isSome_none, Option.getD_some, Option.getD_none, if_true, Bool.false_eq_true, if_false])
  go_wp2_with fail
  go_region
  (try go_wp2)
  refine bodyPost_ret (results_2fa (fn := Try.f73) rfl _ _ (w.heap.size + 1 + 1) (w.heap.size + 1 + 1 + 1) Fa.zero Fa.zero false rfl rfl rfl (by simp (maxDischargeDepth := 12) [*, go_sem, ↓IntWalk.iteOmega, Fa.zero]) (by simp (maxDischargeDepth := 12) [*, go_sem, ↓IntWalk.iteOmega, Fa.zero]) (by simp (maxDischargeDepth := 12) [*, go_sem, ↓IntWalk.iteOmega, Fa.zero]) (by simp (maxDischargeDepth := 12) [*, go_sem, ↓IntWalk.iteOmega, Fa.zero]) (by simp (maxDischargeDepth := 12) [*, go_sem, ↓IntWalk.iteOmega, Fa.zero]) (by simp (maxDischargeDepth := 12) [*, go_sem, ↓IntWalk.iteOmega, Fa.zero]) (by simp (maxDischargeDepth := 12) [*, go_sem, ↓IntWalk.iteOmega, Fa.zero]) (by simp (maxDischargeDepth := 12) [*, go_sem, ↓IntWalk.iteOmega, Fa.zero])) rfl ⟨rfl, (by repeat' (first | (with_reducible exact Below.refl _ _) | (with_reducible assumption) | (with_reducible refine Below.alloc ?_ ?_ _) | (with_reducible refine Below.setCell ?_ ?_ _) | (with_reducible refine Below.drew ?_) | (with_reducible refine below_dn ?_ _) | (with_reducible refine Below.trans ?_ (Below.mono (by assumption) ?_)) | go_size))⟩

set_option maxHeartbeats 2000000 in
theorem frg_n2 (op : Int) (a b : Fa) (r : Sp) (h1 : Sp.if_ op a.s b.s = some r) (bk : Int) (hT : Cond.turned op = some bk) (h2 : Sp.if_ bk b.s a.s = none) (w : World) : Calls Try.prog 73 #[.int .u8 op, .agg #[.int .u64 (N a.t.v), .int .u64 (N a.t.m), .int .u64 (N a.s.lo), .int .u64 (N a.s.hi)], .agg #[.int .u64 (N b.t.v), .int .u64 (N b.t.m), .int .u64 (N b.s.lo), .int .u64 (N b.s.hi)]] w fun e w' => e = .returned (.tuple #[.agg #[.int .u64 (N (((Fa.ranges op a b).getD (Fa.zero, Fa.zero)).1).t.v), .int .u64 (N (((Fa.ranges op a b).getD (Fa.zero, Fa.zero)).1).t.m), .int .u64 (N (((Fa.ranges op a b).getD (Fa.zero, Fa.zero)).1).s.lo), .int .u64 (N (((Fa.ranges op a b).getD (Fa.zero, Fa.zero)).1).s.hi)], .agg #[.int .u64 (N (((Fa.ranges op a b).getD (Fa.zero, Fa.zero)).2).t.v), .int .u64 (N (((Fa.ranges op a b).getD (Fa.zero, Fa.zero)).2).t.m), .int .u64 (N (((Fa.ranges op a b).getD (Fa.zero, Fa.zero)).2).s.lo), .int .u64 (N (((Fa.ranges op a b).getD (Fa.zero, Fa.zero)).2).s.hi)], .bool (Fa.ranges op a b).isSome]) ∧ Below w.heap.size w w' := by
  have hR : Fa.ranges op a b = none := by unfold Fa.ranges; simp [*]
  rw [hR]
  clear hR
  go_enter Try.func73, Try.ntmps73
  go_wp2_with fail
  refine (sif_c' _ _ _ _ _ _).mono ?_
  rintro e w1 ⟨rfl, hbw1⟩
  obtain ⟨hcw1, hfw1, hzw1⟩ := bcell hbw1
  (try simp only [World.size_alloc, World.size_setCell, World.size_drew] at hcw1 hfw1 hzw1)
  (try simp only [Tn.eta, Sp.eta, Fa.eta, h1, Option.isSome_some, Option.isSome_none, Option.getD_some, Option.getD_none, if_true, Bool.false_eq_true, if_false])
  go_wp2_with fail
  refine (cturned_c _ _).mono ?_
  rintro e wT ⟨rfl, rfl⟩
  (try simp only [Tn.eta, Sp.eta, Fa.eta, hT, Option.isSome_some, Option.isSome_none, Option.getD_some, Option.getD_none, if_true, Bool.false_eq_true, if_false])
  go_wp2_with fail
  refine (sif_c' _ _ _ _ _ _).mono ?_
  rintro e w2 ⟨rfl, hbw2⟩
  obtain ⟨hcw2, hfw2, hzw2⟩ := bcell hbw2
  (try simp only [World.size_alloc, World.size_setCell, World.size_drew] at hcw2 hfw2 hzw2)
  (try simp only [Tn.eta, Sp.eta, Fa.eta, h2, Option.isSome_some, Option.isSome_none, Option.getD_some, Option.getD_none, if_true, Bool.false_eq_true, if_false])
  go_wp2_with fail
  go_region
  (try go_wp2)
  refine bodyPost_ret (results_2fa (fn := Try.f73) rfl _ _ (w.heap.size + 1 + 1) (w.heap.size + 1 + 1 + 1) Fa.zero Fa.zero false rfl rfl rfl (by simp (maxDischargeDepth := 12) [*, go_sem, ↓IntWalk.iteOmega, Fa.zero]) (by simp (maxDischargeDepth := 12) [*, go_sem, ↓IntWalk.iteOmega, Fa.zero]) (by simp (maxDischargeDepth := 12) [*, go_sem, ↓IntWalk.iteOmega, Fa.zero]) (by simp (maxDischargeDepth := 12) [*, go_sem, ↓IntWalk.iteOmega, Fa.zero]) (by simp (maxDischargeDepth := 12) [*, go_sem, ↓IntWalk.iteOmega, Fa.zero]) (by simp (maxDischargeDepth := 12) [*, go_sem, ↓IntWalk.iteOmega, Fa.zero]) (by simp (maxDischargeDepth := 12) [*, go_sem, ↓IntWalk.iteOmega, Fa.zero]) (by simp (maxDischargeDepth := 12) [*, go_sem, ↓IntWalk.iteOmega, Fa.zero])) rfl ⟨rfl, (by repeat' (first | (with_reducible exact Below.refl _ _) | (with_reducible assumption) | (with_reducible refine Below.alloc ?_ ?_ _) | (with_reducible refine Below.setCell ?_ ?_ _) | (with_reducible refine Below.drew ?_) | (with_reducible refine below_dn ?_ _) | (with_reducible refine Below.trans ?_ (Below.mono (by assumption) ?_)) | go_size))⟩

set_option maxHeartbeats 2000000 in
theorem frg_n3f (op : Int) (a b : Fa) (r : Sp) (h1 : Sp.if_ op a.s b.s = some r) (hT : Cond.turned op = none) (h3 : Fa.settle ⟨a.t, r⟩ = none) (w : World) : Calls Try.prog 73 #[.int .u8 op, .agg #[.int .u64 (N a.t.v), .int .u64 (N a.t.m), .int .u64 (N a.s.lo), .int .u64 (N a.s.hi)], .agg #[.int .u64 (N b.t.v), .int .u64 (N b.t.m), .int .u64 (N b.s.lo), .int .u64 (N b.s.hi)]] w fun e w' => e = .returned (.tuple #[.agg #[.int .u64 (N (((Fa.ranges op a b).getD (Fa.zero, Fa.zero)).1).t.v), .int .u64 (N (((Fa.ranges op a b).getD (Fa.zero, Fa.zero)).1).t.m), .int .u64 (N (((Fa.ranges op a b).getD (Fa.zero, Fa.zero)).1).s.lo), .int .u64 (N (((Fa.ranges op a b).getD (Fa.zero, Fa.zero)).1).s.hi)], .agg #[.int .u64 (N (((Fa.ranges op a b).getD (Fa.zero, Fa.zero)).2).t.v), .int .u64 (N (((Fa.ranges op a b).getD (Fa.zero, Fa.zero)).2).t.m), .int .u64 (N (((Fa.ranges op a b).getD (Fa.zero, Fa.zero)).2).s.lo), .int .u64 (N (((Fa.ranges op a b).getD (Fa.zero, Fa.zero)).2).s.hi)], .bool (Fa.ranges op a b).isSome]) ∧ Below w.heap.size w w' := by
  have hR : Fa.ranges op a b = none := by unfold Fa.ranges; simp [*]
  rw [hR]
  clear hR
  go_enter Try.func73, Try.ntmps73
  go_wp2_with fail
  refine (sif_c' _ _ _ _ _ _).mono ?_
  rintro e w1 ⟨rfl, hbw1⟩
  obtain ⟨hcw1, hfw1, hzw1⟩ := bcell hbw1
  (try simp only [World.size_alloc, World.size_setCell, World.size_drew] at hcw1 hfw1 hzw1)
  (try simp only [Tn.eta, Sp.eta, Fa.eta, h1, Option.isSome_some, Option.isSome_none, Option.getD_some, Option.getD_none, if_true, Bool.false_eq_true, if_false])
  go_wp2_with fail
  refine (cturned_c _ _).mono ?_
  rintro e wT ⟨rfl, rfl⟩
  (try simp only [Tn.eta, Sp.eta, Fa.eta, hT, Option.isSome_some, Option.isSome_none, Option.getD_some, Option.getD_none, if_true, Bool.false_eq_true, if_false])
  go_wp2_with fail
  refine (settle_c' _ _ _ _ _).mono ?_
  rintro e w3 ⟨rfl, hbw3⟩
  obtain ⟨hcw3, hfw3, hzw3⟩ := bcell hbw3
  (try simp only [World.size_alloc, World.size_setCell, World.size_drew] at hcw3 hfw3 hzw3)
  (try simp only [Tn.eta, Sp.eta, Fa.eta, h3, Option.isSome_some, Option.isSome_none, Option.getD_some, Option.getD_none, if_true, Bool.false_eq_true, if_false])
  go_wp2
  refine bodyPost_ret (results_2fa (fn := Try.f73) rfl _ _ (w.heap.size + 1 + 1) (w.heap.size + 1 + 1 + 1) Fa.zero Fa.zero false rfl rfl rfl (by simp (maxDischargeDepth := 12) [*, go_sem, ↓IntWalk.iteOmega, Fa.zero]) (by simp (maxDischargeDepth := 12) [*, go_sem, ↓IntWalk.iteOmega, Fa.zero]) (by simp (maxDischargeDepth := 12) [*, go_sem, ↓IntWalk.iteOmega, Fa.zero]) (by simp (maxDischargeDepth := 12) [*, go_sem, ↓IntWalk.iteOmega, Fa.zero]) (by simp (maxDischargeDepth := 12) [*, go_sem, ↓IntWalk.iteOmega, Fa.zero]) (by simp (maxDischargeDepth := 12) [*, go_sem, ↓IntWalk.iteOmega, Fa.zero]) (by simp (maxDischargeDepth := 12) [*, go_sem, ↓IntWalk.iteOmega, Fa.zero]) (by simp (maxDischargeDepth := 12) [*, go_sem, ↓IntWalk.iteOmega, Fa.zero])) rfl ⟨rfl, (by repeat' (first | (with_reducible exact Below.refl _ _) | (with_reducible assumption) | (with_reducible refine Below.alloc ?_ ?_ _) | (with_reducible refine Below.setCell ?_ ?_ _) | (with_reducible refine Below.drew ?_) | (with_reducible refine below_dn ?_ _) | (with_reducible refine Below.trans ?_ (Below.mono (by assumption) ?_)) | go_size))⟩

set_option maxHeartbeats 2000000 in
theorem frg_n4f (op : Int) (a b : Fa) (r : Sp) (h1 : Sp.if_ op a.s b.s = some r) (hT : Cond.turned op = none) (x : Fa) (h3 : Fa.settle ⟨a.t, r⟩ = some x) (h4 : Fa.settle ⟨b.t, b.s⟩ = none) (w : World) : Calls Try.prog 73 #[.int .u8 op, .agg #[.int .u64 (N a.t.v), .int .u64 (N a.t.m), .int .u64 (N a.s.lo), .int .u64 (N a.s.hi)], .agg #[.int .u64 (N b.t.v), .int .u64 (N b.t.m), .int .u64 (N b.s.lo), .int .u64 (N b.s.hi)]] w fun e w' => e = .returned (.tuple #[.agg #[.int .u64 (N (((Fa.ranges op a b).getD (Fa.zero, Fa.zero)).1).t.v), .int .u64 (N (((Fa.ranges op a b).getD (Fa.zero, Fa.zero)).1).t.m), .int .u64 (N (((Fa.ranges op a b).getD (Fa.zero, Fa.zero)).1).s.lo), .int .u64 (N (((Fa.ranges op a b).getD (Fa.zero, Fa.zero)).1).s.hi)], .agg #[.int .u64 (N (((Fa.ranges op a b).getD (Fa.zero, Fa.zero)).2).t.v), .int .u64 (N (((Fa.ranges op a b).getD (Fa.zero, Fa.zero)).2).t.m), .int .u64 (N (((Fa.ranges op a b).getD (Fa.zero, Fa.zero)).2).s.lo), .int .u64 (N (((Fa.ranges op a b).getD (Fa.zero, Fa.zero)).2).s.hi)], .bool (Fa.ranges op a b).isSome]) ∧ Below w.heap.size w w' := by
  have hR : Fa.ranges op a b = none := by unfold Fa.ranges; simp [*]
  rw [hR]
  clear hR
  go_enter Try.func73, Try.ntmps73
  go_wp2_with fail
  refine (sif_c' _ _ _ _ _ _).mono ?_
  rintro e w1 ⟨rfl, hbw1⟩
  obtain ⟨hcw1, hfw1, hzw1⟩ := bcell hbw1
  (try simp only [World.size_alloc, World.size_setCell, World.size_drew] at hcw1 hfw1 hzw1)
  (try simp only [Tn.eta, Sp.eta, Fa.eta, h1, Option.isSome_some, Option.isSome_none, Option.getD_some, Option.getD_none, if_true, Bool.false_eq_true, if_false])
  go_wp2_with fail
  refine (cturned_c _ _).mono ?_
  rintro e wT ⟨rfl, rfl⟩
  (try simp only [Tn.eta, Sp.eta, Fa.eta, hT, Option.isSome_some, Option.isSome_none, Option.getD_some, Option.getD_none, if_true, Bool.false_eq_true, if_false])
  go_wp2_with fail
  refine (settle_c' _ _ _ _ _).mono ?_
  rintro e w3 ⟨rfl, hbw3⟩
  obtain ⟨hcw3, hfw3, hzw3⟩ := bcell hbw3
  (try simp only [World.size_alloc, World.size_setCell, World.size_drew] at hcw3 hfw3 hzw3)
  (try simp only [Tn.eta, Sp.eta, Fa.eta, h3, Option.isSome_some, Option.isSome_none, Option.getD_some, Option.getD_none, if_true, Bool.false_eq_true, if_false])
  go_wp2_with fail
  refine (settle_c' _ _ _ _ _).mono ?_
  rintro e w4 ⟨rfl, hbw4⟩
  obtain ⟨hcw4, hfw4, hzw4⟩ := bcell hbw4
  (try simp only [World.size_alloc, World.size_setCell, World.size_drew] at hcw4 hfw4 hzw4)
  (try simp only [Tn.eta, Sp.eta, Fa.eta, h4, Option.isSome_some, Option.isSome_none, Option.getD_some, Option.getD_none, if_true, Bool.false_eq_true, if_false])
  go_wp2
  refine bodyPost_ret (results_2fa (fn := Try.f73) rfl _ _ (w.heap.size + 1 + 1) (w.heap.size + 1 + 1 + 1) Fa.zero Fa.zero false rfl rfl rfl (by simp (maxDischargeDepth := 12) [*, go_sem, ↓IntWalk.iteOmega, Fa.zero]) (by simp (maxDischargeDepth := 12) [*, go_sem, ↓IntWalk.iteOmega, Fa.zero]) (by simp (maxDischargeDepth := 12) [*, go_sem, ↓IntWalk.iteOmega, Fa.zero]) (by simp (maxDischargeDepth := 12) [*, go_sem, ↓IntWalk.iteOmega, Fa.zero]) (by simp (maxDischargeDepth := 12) [*, go_sem, ↓IntWalk.iteOmega, Fa.zero]) (by simp (maxDischargeDepth := 12) [*, go_sem, ↓IntWalk.iteOmega, Fa.zero]) (by simp (maxDischargeDepth := 12) [*, go_sem, ↓IntWalk.iteOmega, Fa.zero]) (by simp (maxDischargeDepth := 12) [*, go_sem, ↓IntWalk.iteOmega, Fa.zero])) rfl ⟨rfl, (by repeat' (first | (with_reducible exact Below.refl _ _) | (with_reducible assumption) | (with_reducible refine Below.alloc ?_ ?_ _) | (with_reducible refine Below.setCell ?_ ?_ _) | (with_reducible refine Below.drew ?_) | (with_reducible refine below_dn ?_ _) | (with_reducible refine Below.trans ?_ (Below.mono (by assumption) ?_)) | go_size))⟩

set_option maxHeartbeats 2000000 in
theorem frg_yf (op : Int) (a b : Fa) (r : Sp) (h1 : Sp.if_ op a.s b.s = some r) (hT : Cond.turned op = none) (x y : Fa) (h3 : Fa.settle ⟨a.t, r⟩ = some x) (h4 : Fa.settle ⟨b.t, b.s⟩ = some y) (w : World) : Calls Try.prog 73 #[.int .u8 op, .agg #[.int .u64 (N a.t.v), .int .u64 (N a.t.m), .int .u64 (N a.s.lo), .int .u64 (N a.s.hi)], .agg #[.int .u64 (N b.t.v), .int .u64 (N b.t.m), .int .u64 (N b.s.lo), .int .u64 (N b.s.hi)]] w fun e w' => e = .returned (.tuple #[.agg #[.int .u64 (N (((Fa.ranges op a b).getD (Fa.zero, Fa.zero)).1).t.v), .int .u64 (N (((Fa.ranges op a b).getD (Fa.zero, Fa.zero)).1).t.m), .int .u64 (N (((Fa.ranges op a b).getD (Fa.zero, Fa.zero)).1).s.lo), .int .u64 (N (((Fa.ranges op a b).getD (Fa.zero, Fa.zero)).1).s.hi)], .agg #[.int .u64 (N (((Fa.ranges op a b).getD (Fa.zero, Fa.zero)).2).t.v), .int .u64 (N (((Fa.ranges op a b).getD (Fa.zero, Fa.zero)).2).t.m), .int .u64 (N (((Fa.ranges op a b).getD (Fa.zero, Fa.zero)).2).s.lo), .int .u64 (N (((Fa.ranges op a b).getD (Fa.zero, Fa.zero)).2).s.hi)], .bool (Fa.ranges op a b).isSome]) ∧ Below w.heap.size w w' := by
  have hR : Fa.ranges op a b = some (x, y) := by unfold Fa.ranges; simp [*]
  rw [hR]
  clear hR
  go_enter Try.func73, Try.ntmps73
  go_wp2_with fail
  refine (sif_c' _ _ _ _ _ _).mono ?_
  rintro e w1 ⟨rfl, hbw1⟩
  obtain ⟨hcw1, hfw1, hzw1⟩ := bcell hbw1
  (try simp only [World.size_alloc, World.size_setCell, World.size_drew] at hcw1 hfw1 hzw1)
  (try simp only [Tn.eta, Sp.eta, Fa.eta, h1, Option.isSome_some, Option.isSome_none, Option.getD_some, Option.getD_none, if_true, Bool.false_eq_true, if_false])
  go_wp2_with fail
  refine (cturned_c _ _).mono ?_
  rintro e wT ⟨rfl, rfl⟩
  (try simp only [Tn.eta, Sp.eta, Fa.eta, hT, Option.isSome_some, Option.isSome_none, Option.getD_some, Option.getD_none, if_true, Bool.false_eq_true, if_false])
  go_wp2_with fail
  refine (settle_c' _ _ _ _ _).mono ?_
  rintro e w3 ⟨rfl, hbw3⟩
  obtain ⟨hcw3, hfw3, hzw3⟩ := bcell hbw3
  (try simp only [World.size_alloc, World.size_setCell, World.size_drew] at hcw3 hfw3 hzw3)
  (try simp only [Tn.eta, Sp.eta, Fa.eta, h3, Option.isSome_some, Option.isSome_none, Option.getD_some, Option.getD_none, if_true, Bool.false_eq_true, if_false])
  go_wp2_with fail
  refine (settle_c' _ _ _ _ _).mono ?_
  rintro e w4 ⟨rfl, hbw4⟩
  obtain ⟨hcw4, hfw4, hzw4⟩ := bcell hbw4
  (try simp only [World.size_alloc, World.size_setCell, World.size_drew] at hcw4 hfw4 hzw4)
  (try simp only [Tn.eta, Sp.eta, Fa.eta, h4, Option.isSome_some, Option.isSome_none, Option.getD_some, Option.getD_none, if_true, Bool.false_eq_true, if_false])
  go_wp2_with fail
  go_region
  (try go_wp2)
  refine bodyPost_ret (results_2fa (fn := Try.f73) rfl _ _ (w.heap.size + 1 + 1) (w.heap.size + 1 + 1 + 1) x y true rfl rfl rfl (by simp (maxDischargeDepth := 12) [*, go_sem, ↓IntWalk.iteOmega, Fa.zero]) (by simp (maxDischargeDepth := 12) [*, go_sem, ↓IntWalk.iteOmega, Fa.zero]) (by simp (maxDischargeDepth := 12) [*, go_sem, ↓IntWalk.iteOmega, Fa.zero]) (by simp (maxDischargeDepth := 12) [*, go_sem, ↓IntWalk.iteOmega, Fa.zero]) (by simp (maxDischargeDepth := 12) [*, go_sem, ↓IntWalk.iteOmega, Fa.zero]) (by simp (maxDischargeDepth := 12) [*, go_sem, ↓IntWalk.iteOmega, Fa.zero]) (by simp (maxDischargeDepth := 12) [*, go_sem, ↓IntWalk.iteOmega, Fa.zero]) (by simp (maxDischargeDepth := 12) [*, go_sem, ↓IntWalk.iteOmega, Fa.zero])) rfl ⟨rfl, (by repeat' (first | (with_reducible exact Below.refl _ _) | (with_reducible assumption) | (with_reducible refine Below.alloc ?_ ?_ _) | (with_reducible refine Below.setCell ?_ ?_ _) | (with_reducible refine Below.drew ?_) | (with_reducible refine below_dn ?_ _) | (with_reducible refine Below.trans ?_ (Below.mono (by assumption) ?_)) | go_size))⟩

set_option maxHeartbeats 2000000 in
theorem frg_n3t (op : Int) (a b : Fa) (r : Sp) (h1 : Sp.if_ op a.s b.s = some r) (bk : Int) (hT : Cond.turned op = some bk) (s : Sp) (h2 : Sp.if_ bk b.s a.s = some s) (h3 : Fa.settle ⟨a.t, r⟩ = none) (w : World) : Calls Try.prog 73 #[.int .u8 op, .agg #[.int .u64 (N a.t.v), .int .u64 (N a.t.m), .int .u64 (N a.s.lo), .int .u64 (N a.s.hi)], .agg #[.int .u64 (N b.t.v), .int .u64 (N b.t.m), .int .u64 (N b.s.lo), .int .u64 (N b.s.hi)]] w fun e w' => e = .returned (.tuple #[.agg #[.int .u64 (N (((Fa.ranges op a b).getD (Fa.zero, Fa.zero)).1).t.v), .int .u64 (N (((Fa.ranges op a b).getD (Fa.zero, Fa.zero)).1).t.m), .int .u64 (N (((Fa.ranges op a b).getD (Fa.zero, Fa.zero)).1).s.lo), .int .u64 (N (((Fa.ranges op a b).getD (Fa.zero, Fa.zero)).1).s.hi)], .agg #[.int .u64 (N (((Fa.ranges op a b).getD (Fa.zero, Fa.zero)).2).t.v), .int .u64 (N (((Fa.ranges op a b).getD (Fa.zero, Fa.zero)).2).t.m), .int .u64 (N (((Fa.ranges op a b).getD (Fa.zero, Fa.zero)).2).s.lo), .int .u64 (N (((Fa.ranges op a b).getD (Fa.zero, Fa.zero)).2).s.hi)], .bool (Fa.ranges op a b).isSome]) ∧ Below w.heap.size w w' := by
  have hR : Fa.ranges op a b = none := by unfold Fa.ranges; simp [*]
  rw [hR]
  clear hR
  go_enter Try.func73, Try.ntmps73
  go_wp2_with fail
  refine (sif_c' _ _ _ _ _ _).mono ?_
  rintro e w1 ⟨rfl, hbw1⟩
  obtain ⟨hcw1, hfw1, hzw1⟩ := bcell hbw1
  (try simp only [World.size_alloc, World.size_setCell, World.size_drew] at hcw1 hfw1 hzw1)
  (try simp only [Tn.eta, Sp.eta, Fa.eta, h1, Option.isSome_some, Option.isSome_none, Option.getD_some, Option.getD_none, if_true, Bool.false_eq_true, if_false])
  go_wp2_with fail
  refine (cturned_c _ _).mono ?_
  rintro e wT ⟨rfl, rfl⟩
  (try simp only [Tn.eta, Sp.eta, Fa.eta, hT, Option.isSome_some, Option.isSome_none, Option.getD_some, Option.getD_none, if_true, Bool.false_eq_true, if_false])
  go_wp2_with fail
  refine (sif_c' _ _ _ _ _ _).mono ?_
  rintro e w2 ⟨rfl, hbw2⟩
  obtain ⟨hcw2, hfw2, hzw2⟩ := bcell hbw2
  (try simp only [World.size_alloc, World.size_setCell, World.size_drew] at hcw2 hfw2 hzw2)
  (try simp only [Tn.eta, Sp.eta, Fa.eta, h2, Option.isSome_some, Option.isSome_none, Option.getD_some, Option.getD_none, if_true, Bool.false_eq_true, if_false])
  go_wp2_with fail
  refine (settle_c' _ _ _ _ _).mono ?_
  rintro e w3 ⟨rfl, hbw3⟩
  obtain ⟨hcw3, hfw3, hzw3⟩ := bcell hbw3
  (try simp only [World.size_alloc, World.size_setCell, World.size_drew] at hcw3 hfw3 hzw3)
  (try simp only [Tn.eta, Sp.eta, Fa.eta, h3, Option.isSome_some, Option.isSome_none, Option.getD_some, Option.getD_none, if_true, Bool.false_eq_true, if_false])
  go_wp2
  refine bodyPost_ret (results_2fa (fn := Try.f73) rfl _ _ (w.heap.size + 1 + 1) (w.heap.size + 1 + 1 + 1) Fa.zero Fa.zero false rfl rfl rfl (by simp (maxDischargeDepth := 12) [*, go_sem, ↓IntWalk.iteOmega, Fa.zero]) (by simp (maxDischargeDepth := 12) [*, go_sem, ↓IntWalk.iteOmega, Fa.zero]) (by simp (maxDischargeDepth := 12) [*, go_sem, ↓IntWalk.iteOmega, Fa.zero]) (by simp (maxDischargeDepth := 12) [*, go_sem, ↓IntWalk.iteOmega, Fa.zero]) (by simp (maxDischargeDepth := 12) [*, go_sem, ↓IntWalk.iteOmega, Fa.zero]) (by simp (maxDischargeDepth := 12) [*, go_sem, ↓IntWalk.iteOmega, Fa.zero]) (by simp (maxDischargeDepth := 12) [*, go_sem, ↓IntWalk.iteOmega, Fa.zero]) (by simp (maxDischargeDepth := 12) [*, go_sem, ↓IntWalk.iteOmega, Fa.zero])) rfl ⟨rfl, (by repeat' (first | (with_reducible exact Below.refl _ _) | (with_reducible assumption) | (with_reducible refine Below.alloc ?_ ?_ _) | (with_reducible refine Below.setCell ?_ ?_ _) | (with_reducible refine Below.drew ?_) | (with_reducible refine below_dn ?_ _) | (with_reducible refine Below.trans ?_ (Below.mono (by assumption) ?_)) | go_size))⟩

set_option maxHeartbeats 2000000 in
theorem frg_n4t (op : Int) (a b : Fa) (r : Sp) (h1 : Sp.if_ op a.s b.s = some r) (bk : Int) (hT : Cond.turned op = some bk) (s : Sp) (h2 : Sp.if_ bk b.s a.s = some s) (x : Fa) (h3 : Fa.settle ⟨a.t, r⟩ = some x) (h4 : Fa.settle ⟨b.t, s⟩ = none) (w : World) : Calls Try.prog 73 #[.int .u8 op, .agg #[.int .u64 (N a.t.v), .int .u64 (N a.t.m), .int .u64 (N a.s.lo), .int .u64 (N a.s.hi)], .agg #[.int .u64 (N b.t.v), .int .u64 (N b.t.m), .int .u64 (N b.s.lo), .int .u64 (N b.s.hi)]] w fun e w' => e = .returned (.tuple #[.agg #[.int .u64 (N (((Fa.ranges op a b).getD (Fa.zero, Fa.zero)).1).t.v), .int .u64 (N (((Fa.ranges op a b).getD (Fa.zero, Fa.zero)).1).t.m), .int .u64 (N (((Fa.ranges op a b).getD (Fa.zero, Fa.zero)).1).s.lo), .int .u64 (N (((Fa.ranges op a b).getD (Fa.zero, Fa.zero)).1).s.hi)], .agg #[.int .u64 (N (((Fa.ranges op a b).getD (Fa.zero, Fa.zero)).2).t.v), .int .u64 (N (((Fa.ranges op a b).getD (Fa.zero, Fa.zero)).2).t.m), .int .u64 (N (((Fa.ranges op a b).getD (Fa.zero, Fa.zero)).2).s.lo), .int .u64 (N (((Fa.ranges op a b).getD (Fa.zero, Fa.zero)).2).s.hi)], .bool (Fa.ranges op a b).isSome]) ∧ Below w.heap.size w w' := by
  have hR : Fa.ranges op a b = none := by unfold Fa.ranges; simp [*]
  rw [hR]
  clear hR
  go_enter Try.func73, Try.ntmps73
  go_wp2_with fail
  refine (sif_c' _ _ _ _ _ _).mono ?_
  rintro e w1 ⟨rfl, hbw1⟩
  obtain ⟨hcw1, hfw1, hzw1⟩ := bcell hbw1
  (try simp only [World.size_alloc, World.size_setCell, World.size_drew] at hcw1 hfw1 hzw1)
  (try simp only [Tn.eta, Sp.eta, Fa.eta, h1, Option.isSome_some, Option.isSome_none, Option.getD_some, Option.getD_none, if_true, Bool.false_eq_true, if_false])
  go_wp2_with fail
  refine (cturned_c _ _).mono ?_
  rintro e wT ⟨rfl, rfl⟩
  (try simp only [Tn.eta, Sp.eta, Fa.eta, hT, Option.isSome_some, Option.isSome_none, Option.getD_some, Option.getD_none, if_true, Bool.false_eq_true, if_false])
  go_wp2_with fail
  refine (sif_c' _ _ _ _ _ _).mono ?_
  rintro e w2 ⟨rfl, hbw2⟩
  obtain ⟨hcw2, hfw2, hzw2⟩ := bcell hbw2
  (try simp only [World.size_alloc, World.size_setCell, World.size_drew] at hcw2 hfw2 hzw2)
  (try simp only [Tn.eta, Sp.eta, Fa.eta, h2, Option.isSome_some, Option.isSome_none, Option.getD_some, Option.getD_none, if_true, Bool.false_eq_true, if_false])
  go_wp2_with fail
  refine (settle_c' _ _ _ _ _).mono ?_
  rintro e w3 ⟨rfl, hbw3⟩
  obtain ⟨hcw3, hfw3, hzw3⟩ := bcell hbw3
  (try simp only [World.size_alloc, World.size_setCell, World.size_drew] at hcw3 hfw3 hzw3)
  (try simp only [Tn.eta, Sp.eta, Fa.eta, h3, Option.isSome_some, Option.isSome_none, Option.getD_some, Option.getD_none, if_true, Bool.false_eq_true, if_false])
  go_wp2_with fail
  refine (settle_c' _ _ _ _ _).mono ?_
  rintro e w4 ⟨rfl, hbw4⟩
  obtain ⟨hcw4, hfw4, hzw4⟩ := bcell hbw4
  (try simp only [World.size_alloc, World.size_setCell, World.size_drew] at hcw4 hfw4 hzw4)
  (try simp only [Tn.eta, Sp.eta, Fa.eta, h4, Option.isSome_some, Option.isSome_none, Option.getD_some, Option.getD_none, if_true, Bool.false_eq_true, if_false])
  go_wp2
  refine bodyPost_ret (results_2fa (fn := Try.f73) rfl _ _ (w.heap.size + 1 + 1) (w.heap.size + 1 + 1 + 1) Fa.zero Fa.zero false rfl rfl rfl (by simp (maxDischargeDepth := 12) [*, go_sem, ↓IntWalk.iteOmega, Fa.zero]) (by simp (maxDischargeDepth := 12) [*, go_sem, ↓IntWalk.iteOmega, Fa.zero]) (by simp (maxDischargeDepth := 12) [*, go_sem, ↓IntWalk.iteOmega, Fa.zero]) (by simp (maxDischargeDepth := 12) [*, go_sem, ↓IntWalk.iteOmega, Fa.zero]) (by simp (maxDischargeDepth := 12) [*, go_sem, ↓IntWalk.iteOmega, Fa.zero]) (by simp (maxDischargeDepth := 12) [*, go_sem, ↓IntWalk.iteOmega, Fa.zero]) (by simp (maxDischargeDepth := 12) [*, go_sem, ↓IntWalk.iteOmega, Fa.zero]) (by simp (maxDischargeDepth := 12) [*, go_sem, ↓IntWalk.iteOmega, Fa.zero])) rfl ⟨rfl, (by repeat' (first | (with_reducible exact Below.refl _ _) | (with_reducible assumption) | (with_reducible refine Below.alloc ?_ ?_ _) | (with_reducible refine Below.setCell ?_ ?_ _) | (with_reducible refine Below.drew ?_) | (with_reducible refine below_dn ?_ _) | (with_reducible refine Below.trans ?_ (Below.mono (by assumption) ?_)) | go_size))⟩

set_option maxHeartbeats 2000000 in
theorem frg_yt (op : Int) (a b : Fa) (r : Sp) (h1 : Sp.if_ op a.s b.s = some r) (bk : Int) (hT : Cond.turned op = some bk) (s : Sp) (h2 : Sp.if_ bk b.s a.s = some s) (x y : Fa) (h3 : Fa.settle ⟨a.t, r⟩ = some x) (h4 : Fa.settle ⟨b.t, s⟩ = some y) (w : World) : Calls Try.prog 73 #[.int .u8 op, .agg #[.int .u64 (N a.t.v), .int .u64 (N a.t.m), .int .u64 (N a.s.lo), .int .u64 (N a.s.hi)], .agg #[.int .u64 (N b.t.v), .int .u64 (N b.t.m), .int .u64 (N b.s.lo), .int .u64 (N b.s.hi)]] w fun e w' => e = .returned (.tuple #[.agg #[.int .u64 (N (((Fa.ranges op a b).getD (Fa.zero, Fa.zero)).1).t.v), .int .u64 (N (((Fa.ranges op a b).getD (Fa.zero, Fa.zero)).1).t.m), .int .u64 (N (((Fa.ranges op a b).getD (Fa.zero, Fa.zero)).1).s.lo), .int .u64 (N (((Fa.ranges op a b).getD (Fa.zero, Fa.zero)).1).s.hi)], .agg #[.int .u64 (N (((Fa.ranges op a b).getD (Fa.zero, Fa.zero)).2).t.v), .int .u64 (N (((Fa.ranges op a b).getD (Fa.zero, Fa.zero)).2).t.m), .int .u64 (N (((Fa.ranges op a b).getD (Fa.zero, Fa.zero)).2).s.lo), .int .u64 (N (((Fa.ranges op a b).getD (Fa.zero, Fa.zero)).2).s.hi)], .bool (Fa.ranges op a b).isSome]) ∧ Below w.heap.size w w' := by
  have hR : Fa.ranges op a b = some (x, y) := by unfold Fa.ranges; simp [*]
  rw [hR]
  clear hR
  go_enter Try.func73, Try.ntmps73
  go_wp2_with fail
  refine (sif_c' _ _ _ _ _ _).mono ?_
  rintro e w1 ⟨rfl, hbw1⟩
  obtain ⟨hcw1, hfw1, hzw1⟩ := bcell hbw1
  (try simp only [World.size_alloc, World.size_setCell, World.size_drew] at hcw1 hfw1 hzw1)
  (try simp only [Tn.eta, Sp.eta, Fa.eta, h1, Option.isSome_some, Option.isSome_none, Option.getD_some, Option.getD_none, if_true, Bool.false_eq_true, if_false])
  go_wp2_with fail
  refine (cturned_c _ _).mono ?_
  rintro e wT ⟨rfl, rfl⟩
  (try simp only [Tn.eta, Sp.eta, Fa.eta, hT, Option.isSome_some, Option.isSome_none, Option.getD_some, Option.getD_none, if_true, Bool.false_eq_true, if_false])
  go_wp2_with fail
  refine (sif_c' _ _ _ _ _ _).mono ?_
  rintro e w2 ⟨rfl, hbw2⟩
  obtain ⟨hcw2, hfw2, hzw2⟩ := bcell hbw2
  (try simp only [World.size_alloc, World.size_setCell, World.size_drew] at hcw2 hfw2 hzw2)
  (try simp only [Tn.eta, Sp.eta, Fa.eta, h2, Option.isSome_some, Option.isSome_none, Option.getD_some, Option.getD_none, if_true, Bool.false_eq_true, if_false])
  go_wp2_with fail
  refine (settle_c' _ _ _ _ _).mono ?_
  rintro e w3 ⟨rfl, hbw3⟩
  obtain ⟨hcw3, hfw3, hzw3⟩ := bcell hbw3
  (try simp only [World.size_alloc, World.size_setCell, World.size_drew] at hcw3 hfw3 hzw3)
  (try simp only [Tn.eta, Sp.eta, Fa.eta, h3, Option.isSome_some, Option.isSome_none, Option.getD_some, Option.getD_none, if_true, Bool.false_eq_true, if_false])
  go_wp2_with fail
  refine (settle_c' _ _ _ _ _).mono ?_
  rintro e w4 ⟨rfl, hbw4⟩
  obtain ⟨hcw4, hfw4, hzw4⟩ := bcell hbw4
  (try simp only [World.size_alloc, World.size_setCell, World.size_drew] at hcw4 hfw4 hzw4)
  (try simp only [Tn.eta, Sp.eta, Fa.eta, h4, Option.isSome_some, Option.isSome_none, Option.getD_some, Option.getD_none, if_true, Bool.false_eq_true, if_false])
  go_wp2_with fail
  go_region
  (try go_wp2)
  refine bodyPost_ret (results_2fa (fn := Try.f73) rfl _ _ (w.heap.size + 1 + 1) (w.heap.size + 1 + 1 + 1) x y true rfl rfl rfl (by simp (maxDischargeDepth := 12) [*, go_sem, ↓IntWalk.iteOmega, Fa.zero]) (by simp (maxDischargeDepth := 12) [*, go_sem, ↓IntWalk.iteOmega, Fa.zero]) (by simp (maxDischargeDepth := 12) [*, go_sem, ↓IntWalk.iteOmega, Fa.zero]) (by simp (maxDischargeDepth := 12) [*, go_sem, ↓IntWalk.iteOmega, Fa.zero]) (by simp (maxDischargeDepth := 12) [*, go_sem, ↓IntWalk.iteOmega, Fa.zero]) (by simp (maxDischargeDepth := 12) [*, go_sem, ↓IntWalk.iteOmega, Fa.zero]) (by simp (maxDischargeDepth := 12) [*, go_sem, ↓IntWalk.iteOmega, Fa.zero]) (by simp (maxDischargeDepth := 12) [*, go_sem, ↓IntWalk.iteOmega, Fa.zero])) rfl ⟨rfl, (by repeat' (first | (with_reducible exact Below.refl _ _) | (with_reducible assumption) | (with_reducible refine Below.alloc ?_ ?_ _) | (with_reducible refine Below.setCell ?_ ?_ _) | (with_reducible refine Below.drew ?_) | (with_reducible refine below_dn ?_ _) | (with_reducible refine Below.trans ?_ (Below.mono (by assumption) ?_)) | go_size))⟩

theorem franges_c (op : Int) (a b : Fa) (w : World) : Calls Try.prog 73 #[.int .u8 op, .agg #[.int .u64 (N a.t.v), .int .u64 (N a.t.m), .int .u64 (N a.s.lo), .int .u64 (N a.s.hi)], .agg #[.int .u64 (N b.t.v), .int .u64 (N b.t.m), .int .u64 (N b.s.lo), .int .u64 (N b.s.hi)]] w fun e w' => e = .returned (.tuple #[.agg #[.int .u64 (N (((Fa.ranges op a b).getD (Fa.zero, Fa.zero)).1).t.v), .int .u64 (N (((Fa.ranges op a b).getD (Fa.zero, Fa.zero)).1).t.m), .int .u64 (N (((Fa.ranges op a b).getD (Fa.zero, Fa.zero)).1).s.lo), .int .u64 (N (((Fa.ranges op a b).getD (Fa.zero, Fa.zero)).1).s.hi)], .agg #[.int .u64 (N (((Fa.ranges op a b).getD (Fa.zero, Fa.zero)).2).t.v), .int .u64 (N (((Fa.ranges op a b).getD (Fa.zero, Fa.zero)).2).t.m), .int .u64 (N (((Fa.ranges op a b).getD (Fa.zero, Fa.zero)).2).s.lo), .int .u64 (N (((Fa.ranges op a b).getD (Fa.zero, Fa.zero)).2).s.hi)], .bool (Fa.ranges op a b).isSome]) ∧ Below w.heap.size w w' := by
  rcases h1 : Sp.if_ op a.s b.s with _ | r
  · exact frg_n1 op a b h1 w
  rcases hT : Cond.turned op with _ | bk
  · rcases h3 : Fa.settle ⟨a.t, r⟩ with _ | x
    · exact frg_n3f op a b r h1 hT h3 w
    rcases h4 : Fa.settle ⟨b.t, b.s⟩ with _ | y
    · exact frg_n4f op a b r h1 hT x h3 h4 w
    exact frg_yf op a b r h1 hT x y h3 h4 w
  · rcases h2 : Sp.if_ bk b.s a.s with _ | s
    · exact frg_n2 op a b r h1 bk hT h2 w
    rcases h3 : Fa.settle ⟨a.t, r⟩ with _ | x
    · exact frg_n3t op a b r h1 bk hT s h2 h3 w
    rcases h4 : Fa.settle ⟨b.t, s⟩ with _ | y
    · exact frg_n4t op a b r h1 bk hT s h2 x h3 h4 w
    exact frg_yt op a b r h1 bk hT s h2 x y h3 h4 w

theorem franges_c' (x0 : Int) (x1 y1 z1 u1 : BitVec 64) (x2 y2 z2 u2 : BitVec 64) (w : World) : Calls Try.prog 73 #[.int .u8 x0, .agg #[.int .u64 (N x1), .int .u64 (N y1), .int .u64 (N z1), .int .u64 (N u1)], .agg #[.int .u64 (N x2), .int .u64 (N y2), .int .u64 (N z2), .int .u64 (N u2)]] w fun e w' => e = .returned (.tuple #[.agg #[.int .u64 (N (((Fa.ranges x0 (⟨⟨x1, y1⟩, ⟨z1, u1⟩⟩ : Fa) (⟨⟨x2, y2⟩, ⟨z2, u2⟩⟩ : Fa)).getD (Fa.zero, Fa.zero)).1).t.v), .int .u64 (N (((Fa.ranges x0 (⟨⟨x1, y1⟩, ⟨z1, u1⟩⟩ : Fa) (⟨⟨x2, y2⟩, ⟨z2, u2⟩⟩ : Fa)).getD (Fa.zero, Fa.zero)).1).t.m), .int .u64 (N (((Fa.ranges x0 (⟨⟨x1, y1⟩, ⟨z1, u1⟩⟩ : Fa) (⟨⟨x2, y2⟩, ⟨z2, u2⟩⟩ : Fa)).getD (Fa.zero, Fa.zero)).1).s.lo), .int .u64 (N (((Fa.ranges x0 (⟨⟨x1, y1⟩, ⟨z1, u1⟩⟩ : Fa) (⟨⟨x2, y2⟩, ⟨z2, u2⟩⟩ : Fa)).getD (Fa.zero, Fa.zero)).1).s.hi)], .agg #[.int .u64 (N (((Fa.ranges x0 (⟨⟨x1, y1⟩, ⟨z1, u1⟩⟩ : Fa) (⟨⟨x2, y2⟩, ⟨z2, u2⟩⟩ : Fa)).getD (Fa.zero, Fa.zero)).2).t.v), .int .u64 (N (((Fa.ranges x0 (⟨⟨x1, y1⟩, ⟨z1, u1⟩⟩ : Fa) (⟨⟨x2, y2⟩, ⟨z2, u2⟩⟩ : Fa)).getD (Fa.zero, Fa.zero)).2).t.m), .int .u64 (N (((Fa.ranges x0 (⟨⟨x1, y1⟩, ⟨z1, u1⟩⟩ : Fa) (⟨⟨x2, y2⟩, ⟨z2, u2⟩⟩ : Fa)).getD (Fa.zero, Fa.zero)).2).s.lo), .int .u64 (N (((Fa.ranges x0 (⟨⟨x1, y1⟩, ⟨z1, u1⟩⟩ : Fa) (⟨⟨x2, y2⟩, ⟨z2, u2⟩⟩ : Fa)).getD (Fa.zero, Fa.zero)).2).s.hi)], .bool (Fa.ranges x0 (⟨⟨x1, y1⟩, ⟨z1, u1⟩⟩ : Fa) (⟨⟨x2, y2⟩, ⟨z2, u2⟩⟩ : Fa)).isSome]) ∧ Below w.heap.size w w' := by
  exact franges_c x0 (⟨⟨x1, y1⟩, ⟨z1, u1⟩⟩ : Fa) (⟨⟨x2, y2⟩, ⟨z2, u2⟩⟩ : Fa) w

end Hk
