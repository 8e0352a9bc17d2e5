/- Package span: If; old memory is as it was. No condition but those in each statement. -/
import Derived.Test.YtmhkngblpojeaaaProg
import Derived.Test.YtmhkngblpojeaaaGp
import Derived.Test.YtmhkngblpojeaaaGq
import Derived.Test.YtmhkngblpojeaaaGs
namespace Hk
open Go Go.RowKit Go.Proofs
set_option linter.unusedSimpArgs false
set_option linter.unusedVariables false
set_option maxRecDepth 100000
set_option maxHeartbeats 1000000
theorem sif_no1 (op : Int) (a b : Sp) (h : a.right = false) (w : World) : Calls Try.prog 100 #[.int .u8 op, .agg #[.int .u64 (N a.lo), .int .u64 (N a.hi)], .agg #[.int .u64 (N b.lo), .int .u64 (N b.hi)]] w fun e w' => e = .returned (.tuple #[.agg #[.int .u64 (N ((Sp.if_ (op) a b).getD ⟨0, 0⟩).lo), .int .u64 (N ((Sp.if_ (op) a b).getD ⟨0, 0⟩).hi)], .bool (Sp.if_ (op) a b).isSome]) ∧ Below w.heap.size w w' := by
  have E : Sp.if_ op a b = none := by unfold Sp.if_; rw [h]; rfl
  rw [E]; clear E
  go_enter Try.func100, Try.ntmps100
  go_wp2_with (first | (go_at_call 50; (with_reducible refine (sright_c' _ _ _).mono ?_); rintro e w1 ⟨rfl, hb1⟩; obtain ⟨hc1, hf1, hz1⟩ := bcell hb1; (try simp only [World.size_alloc, World.size_setCell, World.size_drew] at hc1 hf1 hz1)))
  refine bodyPost_ret ?_ rfl ⟨rfl, (by repeat' (first | (with_reducible exact Below.refl _ _) | (with_reducible assumption) | (with_reducible refine Below.alloc ?_ ?_ _) | (with_reducible refine Below.setCell ?_ ?_ _) | (with_reducible refine Below.drew ?_) | (with_reducible refine below_dn ?_ _) | (with_reducible refine Below.trans ?_ (Below.mono (by assumption) ?_)) | go_size))⟩
  simp only [results, Try.results100]; simp [*, go_sem, ↓IntWalk.iteOmega]; try (first | rfl | exact ⟨rfl, rfl⟩)

theorem sif_no2 (op : Int) (a b : Sp) (ha : a.right = true) (h : b.right = false) (w : World) : Calls Try.prog 100 #[.int .u8 op, .agg #[.int .u64 (N a.lo), .int .u64 (N a.hi)], .agg #[.int .u64 (N b.lo), .int .u64 (N b.hi)]] w fun e w' => e = .returned (.tuple #[.agg #[.int .u64 (N ((Sp.if_ (op) a b).getD ⟨0, 0⟩).lo), .int .u64 (N ((Sp.if_ (op) a b).getD ⟨0, 0⟩).hi)], .bool (Sp.if_ (op) a b).isSome]) ∧ Below w.heap.size w w' := by
  have E : Sp.if_ op a b = none := by unfold Sp.if_; rw [ha, h]; rfl
  rw [E]; clear E
  go_enter Try.func100, Try.ntmps100
  go_wp2_with (first | (go_at_call 50; (with_reducible refine (sright_c' _ _ _).mono ?_); rintro e w1 ⟨rfl, hb1⟩; obtain ⟨hc1, hf1, hz1⟩ := bcell hb1; (try simp only [World.size_alloc, World.size_setCell, World.size_drew] at hc1 hf1 hz1)))
  refine bodyPost_ret ?_ rfl ⟨rfl, (by repeat' (first | (with_reducible exact Below.refl _ _) | (with_reducible assumption) | (with_reducible refine Below.alloc ?_ ?_ _) | (with_reducible refine Below.setCell ?_ ?_ _) | (with_reducible refine Below.drew ?_) | (with_reducible refine below_dn ?_ _) | (with_reducible refine Below.trans ?_ (Below.mono (by assumption) ?_)) | go_size))⟩
  simp only [results, Try.results100]; simp [*, go_sem, ↓IntWalk.iteOmega]; try (first | rfl | exact ⟨rfl, rfl⟩)

theorem sif_eq (a b : Sp) (ha : a.right = true) (hb : b.right = true)  (w : World) : Calls Try.prog 100 #[.int .u8 16, .agg #[.int .u64 (N a.lo), .int .u64 (N a.hi)], .agg #[.int .u64 (N b.lo), .int .u64 (N b.hi)]] w fun e w' => e = .returned (.tuple #[.agg #[.int .u64 (N ((Sp.if_ (16) a b).getD ⟨0, 0⟩).lo), .int .u64 (N ((Sp.if_ (16) a b).getD ⟨0, 0⟩).hi)], .bool (Sp.if_ (16) a b).isSome]) ∧ Below w.heap.size w w' := by
  rw [Sp.if_eq ha hb]
  rw [(Sp.meet?_get a b).1, (Sp.meet?_get a b).2]
  go_enter Try.func100, Try.ntmps100
  go_wp2_with (first | (go_at_call 50; (with_reducible refine (sright_c' _ _ _).mono ?_); rintro e w1 ⟨rfl, hb1⟩; obtain ⟨hc1, hf1, hz1⟩ := bcell hb1; (try simp only [World.size_alloc, World.size_setCell, World.size_drew] at hc1 hf1 hz1)) | (go_at_call 54; (with_reducible refine (sall_c _).mono ?_); rintro e w1 ⟨rfl, hb1⟩; obtain ⟨hc1, hf1, hz1⟩ := bcell hb1; (try simp only [World.size_alloc, World.size_setCell, World.size_drew] at hc1 hf1 hz1)) | (go_at_call 51; (with_reducible refine (smeet_c' _ _ _ _ _).mono ?_); rintro e w1 ⟨rfl, hb1⟩; obtain ⟨hc1, hf1, hz1⟩ := bcell hb1; (try simp only [World.size_alloc, World.size_setCell, World.size_drew] at hc1 hf1 hz1)) | (go_at_call 117; (with_reducible refine (swithout_c' _ _ _ _).mono ?_); rintro e w1 ⟨rfl, hb1⟩; obtain ⟨hc1, hf1, hz1⟩ := bcell hb1; (try simp only [World.size_alloc, World.size_setCell, World.size_drew] at hc1 hf1 hz1)))
  refine bodyPost_ret ?_ rfl ⟨rfl, (by repeat' (first | (with_reducible exact Below.refl _ _) | (with_reducible assumption) | (with_reducible refine Below.alloc ?_ ?_ _) | (with_reducible refine Below.setCell ?_ ?_ _) | (with_reducible refine Below.drew ?_) | (with_reducible refine below_dn ?_ _) | (with_reducible refine Below.trans ?_ (Below.mono (by assumption) ?_)) | go_size))⟩
  simp only [results, Try.results100]; simp [*, go_sem, ↓IntWalk.iteOmega]; try (first | rfl | exact ⟨rfl, rfl⟩)

theorem sif_gt1 (a b : Sp) (ha : a.right = true) (hb : b.right = true) (h : (18446744073709551615#64 == b.lo) = true) (w : World) : Calls Try.prog 100 #[.int .u8 32, .agg #[.int .u64 (N a.lo), .int .u64 (N a.hi)], .agg #[.int .u64 (N b.lo), .int .u64 (N b.hi)]] w fun e w' => e = .returned (.tuple #[.agg #[.int .u64 (N ((Sp.if_ (32) a b).getD ⟨0, 0⟩).lo), .int .u64 (N ((Sp.if_ (32) a b).getD ⟨0, 0⟩).hi)], .bool (Sp.if_ (32) a b).isSome]) ∧ Below w.heap.size w w' := by
  rw [Sp.if_gt1 ha hb h]
  have e : Sp.without ⟨b.lo, 18446744073709551615#64⟩ b.lo = none := Sp.wo_none (by simp) h
  clear h
  go_enter Try.func100, Try.ntmps100
  go_wp2_with (first | (go_at_call 50; (with_reducible refine (sright_c' _ _ _).mono ?_); rintro e w1 ⟨rfl, hb1⟩; obtain ⟨hc1, hf1, hz1⟩ := bcell hb1; (try simp only [World.size_alloc, World.size_setCell, World.size_drew] at hc1 hf1 hz1)) | (go_at_call 54; (with_reducible refine (sall_c _).mono ?_); rintro e w1 ⟨rfl, hb1⟩; obtain ⟨hc1, hf1, hz1⟩ := bcell hb1; (try simp only [World.size_alloc, World.size_setCell, World.size_drew] at hc1 hf1 hz1)) | (go_at_call 51; (with_reducible refine (smeet_c' _ _ _ _ _).mono ?_); rintro e w1 ⟨rfl, hb1⟩; obtain ⟨hc1, hf1, hz1⟩ := bcell hb1; (try simp only [World.size_alloc, World.size_setCell, World.size_drew] at hc1 hf1 hz1)) | (go_at_call 117; (with_reducible refine (swithout_c' _ _ _ _).mono ?_); rintro e w1 ⟨rfl, hb1⟩; obtain ⟨hc1, hf1, hz1⟩ := bcell hb1; (try simp only [World.size_alloc, World.size_setCell, World.size_drew] at hc1 hf1 hz1)))
  refine bodyPost_ret ?_ rfl ⟨rfl, (by repeat' (first | (with_reducible exact Below.refl _ _) | (with_reducible assumption) | (with_reducible refine Below.alloc ?_ ?_ _) | (with_reducible refine Below.setCell ?_ ?_ _) | (with_reducible refine Below.drew ?_) | (with_reducible refine below_dn ?_ _) | (with_reducible refine Below.trans ?_ (Below.mono (by assumption) ?_)) | go_size))⟩
  simp only [results, Try.results100]; simp [*, go_sem, ↓IntWalk.iteOmega]; try (first | rfl | exact ⟨rfl, rfl⟩)

theorem sif_gt2 (a b : Sp) (ha : a.right = true) (hb : b.right = true) (h : (18446744073709551615#64 == b.lo) = false) (w : World) : Calls Try.prog 100 #[.int .u8 32, .agg #[.int .u64 (N a.lo), .int .u64 (N a.hi)], .agg #[.int .u64 (N b.lo), .int .u64 (N b.hi)]] w fun e w' => e = .returned (.tuple #[.agg #[.int .u64 (N ((Sp.if_ (32) a b).getD ⟨0, 0⟩).lo), .int .u64 (N ((Sp.if_ (32) a b).getD ⟨0, 0⟩).hi)], .bool (Sp.if_ (32) a b).isSome]) ∧ Below w.heap.size w w' := by
  rw [Sp.if_gt2 ha hb h]
  rw [(Sp.meet?_get a ⟨b.lo + 1#64, 18446744073709551615#64⟩).1, (Sp.meet?_get a ⟨b.lo + 1#64, 18446744073709551615#64⟩).2]
  have e : Sp.without ⟨b.lo, 18446744073709551615#64⟩ b.lo = some ⟨b.lo + 1#64, 18446744073709551615#64⟩ := Sp.wo_lo (by simp) h
  clear h
  go_enter Try.func100, Try.ntmps100
  go_wp2_with (first | (go_at_call 50; (with_reducible refine (sright_c' _ _ _).mono ?_); rintro e w1 ⟨rfl, hb1⟩; obtain ⟨hc1, hf1, hz1⟩ := bcell hb1; (try simp only [World.size_alloc, World.size_setCell, World.size_drew] at hc1 hf1 hz1)) | (go_at_call 54; (with_reducible refine (sall_c _).mono ?_); rintro e w1 ⟨rfl, hb1⟩; obtain ⟨hc1, hf1, hz1⟩ := bcell hb1; (try simp only [World.size_alloc, World.size_setCell, World.size_drew] at hc1 hf1 hz1)) | (go_at_call 51; (with_reducible refine (smeet_c' _ _ _ _ _).mono ?_); rintro e w1 ⟨rfl, hb1⟩; obtain ⟨hc1, hf1, hz1⟩ := bcell hb1; (try simp only [World.size_alloc, World.size_setCell, World.size_drew] at hc1 hf1 hz1)) | (go_at_call 117; (with_reducible refine (swithout_c' _ _ _ _).mono ?_); rintro e w1 ⟨rfl, hb1⟩; obtain ⟨hc1, hf1, hz1⟩ := bcell hb1; (try simp only [World.size_alloc, World.size_setCell, World.size_drew] at hc1 hf1 hz1)))
  refine bodyPost_ret ?_ rfl ⟨rfl, (by repeat' (first | (with_reducible exact Below.refl _ _) | (with_reducible assumption) | (with_reducible refine Below.alloc ?_ ?_ _) | (with_reducible refine Below.setCell ?_ ?_ _) | (with_reducible refine Below.drew ?_) | (with_reducible refine below_dn ?_ _) | (with_reducible refine Below.trans ?_ (Below.mono (by assumption) ?_)) | go_size))⟩
  simp only [results, Try.results100]; simp [*, go_sem, ↓IntWalk.iteOmega]; try (first | rfl | exact ⟨rfl, rfl⟩)

theorem sif_ge (a b : Sp) (ha : a.right = true) (hb : b.right = true)  (w : World) : Calls Try.prog 100 #[.int .u8 48, .agg #[.int .u64 (N a.lo), .int .u64 (N a.hi)], .agg #[.int .u64 (N b.lo), .int .u64 (N b.hi)]] w fun e w' => e = .returned (.tuple #[.agg #[.int .u64 (N ((Sp.if_ (48) a b).getD ⟨0, 0⟩).lo), .int .u64 (N ((Sp.if_ (48) a b).getD ⟨0, 0⟩).hi)], .bool (Sp.if_ (48) a b).isSome]) ∧ Below w.heap.size w w' := by
  rw [Sp.if_ge ha hb]
  rw [(Sp.meet?_get a ⟨b.lo, 18446744073709551615#64⟩).1, (Sp.meet?_get a ⟨b.lo, 18446744073709551615#64⟩).2]
  go_enter Try.func100, Try.ntmps100
  go_wp2_with (first | (go_at_call 50; (with_reducible refine (sright_c' _ _ _).mono ?_); rintro e w1 ⟨rfl, hb1⟩; obtain ⟨hc1, hf1, hz1⟩ := bcell hb1; (try simp only [World.size_alloc, World.size_setCell, World.size_drew] at hc1 hf1 hz1)) | (go_at_call 54; (with_reducible refine (sall_c _).mono ?_); rintro e w1 ⟨rfl, hb1⟩; obtain ⟨hc1, hf1, hz1⟩ := bcell hb1; (try simp only [World.size_alloc, World.size_setCell, World.size_drew] at hc1 hf1 hz1)) | (go_at_call 51; (with_reducible refine (smeet_c' _ _ _ _ _).mono ?_); rintro e w1 ⟨rfl, hb1⟩; obtain ⟨hc1, hf1, hz1⟩ := bcell hb1; (try simp only [World.size_alloc, World.size_setCell, World.size_drew] at hc1 hf1 hz1)) | (go_at_call 117; (with_reducible refine (swithout_c' _ _ _ _).mono ?_); rintro e w1 ⟨rfl, hb1⟩; obtain ⟨hc1, hf1, hz1⟩ := bcell hb1; (try simp only [World.size_alloc, World.size_setCell, World.size_drew] at hc1 hf1 hz1)))
  refine bodyPost_ret ?_ rfl ⟨rfl, (by repeat' (first | (with_reducible exact Below.refl _ _) | (with_reducible assumption) | (with_reducible refine Below.alloc ?_ ?_ _) | (with_reducible refine Below.setCell ?_ ?_ _) | (with_reducible refine Below.drew ?_) | (with_reducible refine below_dn ?_ _) | (with_reducible refine Below.trans ?_ (Below.mono (by assumption) ?_)) | go_size))⟩
  simp only [results, Try.results100]; simp [*, go_sem, ↓IntWalk.iteOmega]; try (first | rfl | exact ⟨rfl, rfl⟩)

theorem sif_lt1 (a b : Sp) (ha : a.right = true) (hb : b.right = true) (h : (0#64 == b.hi) = true) (w : World) : Calls Try.prog 100 #[.int .u8 160, .agg #[.int .u64 (N a.lo), .int .u64 (N a.hi)], .agg #[.int .u64 (N b.lo), .int .u64 (N b.hi)]] w fun e w' => e = .returned (.tuple #[.agg #[.int .u64 (N ((Sp.if_ (160) a b).getD ⟨0, 0⟩).lo), .int .u64 (N ((Sp.if_ (160) a b).getD ⟨0, 0⟩).hi)], .bool (Sp.if_ (160) a b).isSome]) ∧ Below w.heap.size w w' := by
  rw [Sp.if_lt1 ha hb h]
  have e : Sp.without ⟨0#64, b.hi⟩ b.hi = none := Sp.wo_none h (by simp)
  clear h
  go_enter Try.func100, Try.ntmps100
  go_wp2_with (first | (go_at_call 50; (with_reducible refine (sright_c' _ _ _).mono ?_); rintro e w1 ⟨rfl, hb1⟩; obtain ⟨hc1, hf1, hz1⟩ := bcell hb1; (try simp only [World.size_alloc, World.size_setCell, World.size_drew] at hc1 hf1 hz1)) | (go_at_call 54; (with_reducible refine (sall_c _).mono ?_); rintro e w1 ⟨rfl, hb1⟩; obtain ⟨hc1, hf1, hz1⟩ := bcell hb1; (try simp only [World.size_alloc, World.size_setCell, World.size_drew] at hc1 hf1 hz1)) | (go_at_call 51; (with_reducible refine (smeet_c' _ _ _ _ _).mono ?_); rintro e w1 ⟨rfl, hb1⟩; obtain ⟨hc1, hf1, hz1⟩ := bcell hb1; (try simp only [World.size_alloc, World.size_setCell, World.size_drew] at hc1 hf1 hz1)) | (go_at_call 117; (with_reducible refine (swithout_c' _ _ _ _).mono ?_); rintro e w1 ⟨rfl, hb1⟩; obtain ⟨hc1, hf1, hz1⟩ := bcell hb1; (try simp only [World.size_alloc, World.size_setCell, World.size_drew] at hc1 hf1 hz1)))
  refine bodyPost_ret ?_ rfl ⟨rfl, (by repeat' (first | (with_reducible exact Below.refl _ _) | (with_reducible assumption) | (with_reducible refine Below.alloc ?_ ?_ _) | (with_reducible refine Below.setCell ?_ ?_ _) | (with_reducible refine Below.drew ?_) | (with_reducible refine below_dn ?_ _) | (with_reducible refine Below.trans ?_ (Below.mono (by assumption) ?_)) | go_size))⟩
  simp only [results, Try.results100]; simp [*, go_sem, ↓IntWalk.iteOmega]; try (first | rfl | exact ⟨rfl, rfl⟩)

theorem sif_lt2 (a b : Sp) (ha : a.right = true) (hb : b.right = true) (h : (0#64 == b.hi) = false) (w : World) : Calls Try.prog 100 #[.int .u8 160, .agg #[.int .u64 (N a.lo), .int .u64 (N a.hi)], .agg #[.int .u64 (N b.lo), .int .u64 (N b.hi)]] w fun e w' => e = .returned (.tuple #[.agg #[.int .u64 (N ((Sp.if_ (160) a b).getD ⟨0, 0⟩).lo), .int .u64 (N ((Sp.if_ (160) a b).getD ⟨0, 0⟩).hi)], .bool (Sp.if_ (160) a b).isSome]) ∧ Below w.heap.size w w' := by
  rw [Sp.if_lt2 ha hb h]
  rw [(Sp.meet?_get a ⟨0, b.hi - 1#64⟩).1, (Sp.meet?_get a ⟨0, b.hi - 1#64⟩).2]
  have e : Sp.without ⟨0#64, b.hi⟩ b.hi = some ⟨0#64, b.hi - 1#64⟩ := Sp.wo_hi h (by simp)
  clear h
  go_enter Try.func100, Try.ntmps100
  go_wp2_with (first | (go_at_call 50; (with_reducible refine (sright_c' _ _ _).mono ?_); rintro e w1 ⟨rfl, hb1⟩; obtain ⟨hc1, hf1, hz1⟩ := bcell hb1; (try simp only [World.size_alloc, World.size_setCell, World.size_drew] at hc1 hf1 hz1)) | (go_at_call 54; (with_reducible refine (sall_c _).mono ?_); rintro e w1 ⟨rfl, hb1⟩; obtain ⟨hc1, hf1, hz1⟩ := bcell hb1; (try simp only [World.size_alloc, World.size_setCell, World.size_drew] at hc1 hf1 hz1)) | (go_at_call 51; (with_reducible refine (smeet_c' _ _ _ _ _).mono ?_); rintro e w1 ⟨rfl, hb1⟩; obtain ⟨hc1, hf1, hz1⟩ := bcell hb1; (try simp only [World.size_alloc, World.size_setCell, World.size_drew] at hc1 hf1 hz1)) | (go_at_call 117; (with_reducible refine (swithout_c' _ _ _ _).mono ?_); rintro e w1 ⟨rfl, hb1⟩; obtain ⟨hc1, hf1, hz1⟩ := bcell hb1; (try simp only [World.size_alloc, World.size_setCell, World.size_drew] at hc1 hf1 hz1)))
  refine bodyPost_ret ?_ rfl ⟨rfl, (by repeat' (first | (with_reducible exact Below.refl _ _) | (with_reducible assumption) | (with_reducible refine Below.alloc ?_ ?_ _) | (with_reducible refine Below.setCell ?_ ?_ _) | (with_reducible refine Below.drew ?_) | (with_reducible refine below_dn ?_ _) | (with_reducible refine Below.trans ?_ (Below.mono (by assumption) ?_)) | go_size))⟩
  simp only [results, Try.results100]; simp [*, go_sem, ↓IntWalk.iteOmega]; try (first | rfl | exact ⟨rfl, rfl⟩)

theorem sif_le (a b : Sp) (ha : a.right = true) (hb : b.right = true)  (w : World) : Calls Try.prog 100 #[.int .u8 176, .agg #[.int .u64 (N a.lo), .int .u64 (N a.hi)], .agg #[.int .u64 (N b.lo), .int .u64 (N b.hi)]] w fun e w' => e = .returned (.tuple #[.agg #[.int .u64 (N ((Sp.if_ (176) a b).getD ⟨0, 0⟩).lo), .int .u64 (N ((Sp.if_ (176) a b).getD ⟨0, 0⟩).hi)], .bool (Sp.if_ (176) a b).isSome]) ∧ Below w.heap.size w w' := by
  rw [Sp.if_le ha hb]
  rw [(Sp.meet?_get a ⟨0, b.hi⟩).1, (Sp.meet?_get a ⟨0, b.hi⟩).2]
  go_enter Try.func100, Try.ntmps100
  go_wp2_with (first | (go_at_call 50; (with_reducible refine (sright_c' _ _ _).mono ?_); rintro e w1 ⟨rfl, hb1⟩; obtain ⟨hc1, hf1, hz1⟩ := bcell hb1; (try simp only [World.size_alloc, World.size_setCell, World.size_drew] at hc1 hf1 hz1)) | (go_at_call 54; (with_reducible refine (sall_c _).mono ?_); rintro e w1 ⟨rfl, hb1⟩; obtain ⟨hc1, hf1, hz1⟩ := bcell hb1; (try simp only [World.size_alloc, World.size_setCell, World.size_drew] at hc1 hf1 hz1)) | (go_at_call 51; (with_reducible refine (smeet_c' _ _ _ _ _).mono ?_); rintro e w1 ⟨rfl, hb1⟩; obtain ⟨hc1, hf1, hz1⟩ := bcell hb1; (try simp only [World.size_alloc, World.size_setCell, World.size_drew] at hc1 hf1 hz1)) | (go_at_call 117; (with_reducible refine (swithout_c' _ _ _ _).mono ?_); rintro e w1 ⟨rfl, hb1⟩; obtain ⟨hc1, hf1, hz1⟩ := bcell hb1; (try simp only [World.size_alloc, World.size_setCell, World.size_drew] at hc1 hf1 hz1)))
  refine bodyPost_ret ?_ rfl ⟨rfl, (by repeat' (first | (with_reducible exact Below.refl _ _) | (with_reducible assumption) | (with_reducible refine Below.alloc ?_ ?_ _) | (with_reducible refine Below.setCell ?_ ?_ _) | (with_reducible refine Below.drew ?_) | (with_reducible refine below_dn ?_ _) | (with_reducible refine Below.trans ?_ (Below.mono (by assumption) ?_)) | go_size))⟩
  simp only [results, Try.results100]; simp [*, go_sem, ↓IntWalk.iteOmega]; try (first | rfl | exact ⟨rfl, rfl⟩)

theorem sif_ne1 (a b : Sp) (ha : a.right = true) (hb : b.right = true) (h : (b.lo == b.hi) = true) (w : World) : Calls Try.prog 100 #[.int .u8 80, .agg #[.int .u64 (N a.lo), .int .u64 (N a.hi)], .agg #[.int .u64 (N b.lo), .int .u64 (N b.hi)]] w fun e w' => e = .returned (.tuple #[.agg #[.int .u64 (N ((Sp.if_ (80) a b).getD ⟨0, 0⟩).lo), .int .u64 (N ((Sp.if_ (80) a b).getD ⟨0, 0⟩).hi)], .bool (Sp.if_ (80) a b).isSome]) ∧ Below w.heap.size w w' := by
  rw [Sp.if_ne1 ha hb h]
  go_enter Try.func100, Try.ntmps100
  go_wp2_with (first | (go_at_call 50; (with_reducible refine (sright_c' _ _ _).mono ?_); rintro e w1 ⟨rfl, hb1⟩; obtain ⟨hc1, hf1, hz1⟩ := bcell hb1; (try simp only [World.size_alloc, World.size_setCell, World.size_drew] at hc1 hf1 hz1)) | (go_at_call 54; (with_reducible refine (sall_c _).mono ?_); rintro e w1 ⟨rfl, hb1⟩; obtain ⟨hc1, hf1, hz1⟩ := bcell hb1; (try simp only [World.size_alloc, World.size_setCell, World.size_drew] at hc1 hf1 hz1)) | (go_at_call 51; (with_reducible refine (smeet_c' _ _ _ _ _).mono ?_); rintro e w1 ⟨rfl, hb1⟩; obtain ⟨hc1, hf1, hz1⟩ := bcell hb1; (try simp only [World.size_alloc, World.size_setCell, World.size_drew] at hc1 hf1 hz1)) | (go_at_call 117; (with_reducible refine (swithout_c' _ _ _ _).mono ?_); rintro e w1 ⟨rfl, hb1⟩; obtain ⟨hc1, hf1, hz1⟩ := bcell hb1; (try simp only [World.size_alloc, World.size_setCell, World.size_drew] at hc1 hf1 hz1)))
  refine bodyPost_ret ?_ rfl ⟨rfl, (by repeat' (first | (with_reducible exact Below.refl _ _) | (with_reducible assumption) | (with_reducible refine Below.alloc ?_ ?_ _) | (with_reducible refine Below.setCell ?_ ?_ _) | (with_reducible refine Below.drew ?_) | (with_reducible refine below_dn ?_ _) | (with_reducible refine Below.trans ?_ (Below.mono (by assumption) ?_)) | go_size))⟩
  simp only [results, Try.results100]; simp [*, go_sem, ↓IntWalk.iteOmega]; try (first | rfl | exact ⟨rfl, rfl⟩)

theorem sif_ne2 (a b : Sp) (ha : a.right = true) (hb : b.right = true) (h : (b.lo == b.hi) = false) (w : World) : Calls Try.prog 100 #[.int .u8 80, .agg #[.int .u64 (N a.lo), .int .u64 (N a.hi)], .agg #[.int .u64 (N b.lo), .int .u64 (N b.hi)]] w fun e w' => e = .returned (.tuple #[.agg #[.int .u64 (N ((Sp.if_ (80) a b).getD ⟨0, 0⟩).lo), .int .u64 (N ((Sp.if_ (80) a b).getD ⟨0, 0⟩).hi)], .bool (Sp.if_ (80) a b).isSome]) ∧ Below w.heap.size w w' := by
  rw [Sp.if_ne2 ha hb h]
  obtain ⟨m1, m2⟩ := Sp.meet_all ha
  have m1' : Sp.meetOk a ⟨0#64, 18446744073709551615#64⟩ = true := m1
  have m2' : Sp.meet a ⟨0#64, 18446744073709551615#64⟩ = a := m2
  go_enter Try.func100, Try.ntmps100
  go_wp2_with (first | (go_at_call 50; (with_reducible refine (sright_c' _ _ _).mono ?_); rintro e w1 ⟨rfl, hb1⟩; obtain ⟨hc1, hf1, hz1⟩ := bcell hb1; (try simp only [World.size_alloc, World.size_setCell, World.size_drew] at hc1 hf1 hz1)) | (go_at_call 54; (with_reducible refine (sall_c _).mono ?_); rintro e w1 ⟨rfl, hb1⟩; obtain ⟨hc1, hf1, hz1⟩ := bcell hb1; (try simp only [World.size_alloc, World.size_setCell, World.size_drew] at hc1 hf1 hz1)) | (go_at_call 51; (with_reducible refine (smeet_c' _ _ _ _ _).mono ?_); rintro e w1 ⟨rfl, hb1⟩; obtain ⟨hc1, hf1, hz1⟩ := bcell hb1; (try simp only [World.size_alloc, World.size_setCell, World.size_drew] at hc1 hf1 hz1)) | (go_at_call 117; (with_reducible refine (swithout_c' _ _ _ _).mono ?_); rintro e w1 ⟨rfl, hb1⟩; obtain ⟨hc1, hf1, hz1⟩ := bcell hb1; (try simp only [World.size_alloc, World.size_setCell, World.size_drew] at hc1 hf1 hz1)))
  refine bodyPost_ret ?_ rfl ⟨rfl, (by repeat' (first | (with_reducible exact Below.refl _ _) | (with_reducible assumption) | (with_reducible refine Below.alloc ?_ ?_ _) | (with_reducible refine Below.setCell ?_ ?_ _) | (with_reducible refine Below.drew ?_) | (with_reducible refine below_dn ?_ _) | (with_reducible refine Below.trans ?_ (Below.mono (by assumption) ?_)) | go_size))⟩
  simp only [results, Try.results100]; simp [*, go_sem, ↓IntWalk.iteOmega]; try (first | rfl | exact ⟨rfl, rfl⟩)

theorem sif_set1a (a b : Sp) (ha : a.right = true) (hb : b.right = true) (h : (a.hi == 0#64) = true) (w : World) : Calls Try.prog 100 #[.int .u8 64, .agg #[.int .u64 (N a.lo), .int .u64 (N a.hi)], .agg #[.int .u64 (N b.lo), .int .u64 (N b.hi)]] w fun e w' => e = .returned (.tuple #[.agg #[.int .u64 (N ((Sp.if_ (64) a b).getD ⟨0, 0⟩).lo), .int .u64 (N ((Sp.if_ (64) a b).getD ⟨0, 0⟩).hi)], .bool (Sp.if_ (64) a b).isSome]) ∧ Below w.heap.size w w' := by
  rw [Sp.if_set1 ha hb (by rw [h]; rfl)]
  go_enter Try.func100, Try.ntmps100
  go_wp2_with (first | (go_at_call 50; (with_reducible refine (sright_c' _ _ _).mono ?_); rintro e w1 ⟨rfl, hb1⟩; obtain ⟨hc1, hf1, hz1⟩ := bcell hb1; (try simp only [World.size_alloc, World.size_setCell, World.size_drew] at hc1 hf1 hz1)) | (go_at_call 54; (with_reducible refine (sall_c _).mono ?_); rintro e w1 ⟨rfl, hb1⟩; obtain ⟨hc1, hf1, hz1⟩ := bcell hb1; (try simp only [World.size_alloc, World.size_setCell, World.size_drew] at hc1 hf1 hz1)) | (go_at_call 51; (with_reducible refine (smeet_c' _ _ _ _ _).mono ?_); rintro e w1 ⟨rfl, hb1⟩; obtain ⟨hc1, hf1, hz1⟩ := bcell hb1; (try simp only [World.size_alloc, World.size_setCell, World.size_drew] at hc1 hf1 hz1)) | (go_at_call 117; (with_reducible refine (swithout_c' _ _ _ _).mono ?_); rintro e w1 ⟨rfl, hb1⟩; obtain ⟨hc1, hf1, hz1⟩ := bcell hb1; (try simp only [World.size_alloc, World.size_setCell, World.size_drew] at hc1 hf1 hz1)))
  refine bodyPost_ret ?_ rfl ⟨rfl, (by repeat' (first | (with_reducible exact Below.refl _ _) | (with_reducible assumption) | (with_reducible refine Below.alloc ?_ ?_ _) | (with_reducible refine Below.setCell ?_ ?_ _) | (with_reducible refine Below.drew ?_) | (with_reducible refine below_dn ?_ _) | (with_reducible refine Below.trans ?_ (Below.mono (by assumption) ?_)) | go_size))⟩
  simp only [results, Try.results100]; simp [*, go_sem, ↓IntWalk.iteOmega]; try (first | rfl | exact ⟨rfl, rfl⟩)

theorem sif_set1b (a b : Sp) (ha : a.right = true) (hb : b.right = true) (h : (a.hi == 0#64) = false) (h' : (b.hi == 0#64) = true) (w : World) : Calls Try.prog 100 #[.int .u8 64, .agg #[.int .u64 (N a.lo), .int .u64 (N a.hi)], .agg #[.int .u64 (N b.lo), .int .u64 (N b.hi)]] w fun e w' => e = .returned (.tuple #[.agg #[.int .u64 (N ((Sp.if_ (64) a b).getD ⟨0, 0⟩).lo), .int .u64 (N ((Sp.if_ (64) a b).getD ⟨0, 0⟩).hi)], .bool (Sp.if_ (64) a b).isSome]) ∧ Below w.heap.size w w' := by
  rw [Sp.if_set1 ha hb (by rw [h, h']; rfl)]
  go_enter Try.func100, Try.ntmps100
  go_wp2_with (first | (go_at_call 50; (with_reducible refine (sright_c' _ _ _).mono ?_); rintro e w1 ⟨rfl, hb1⟩; obtain ⟨hc1, hf1, hz1⟩ := bcell hb1; (try simp only [World.size_alloc, World.size_setCell, World.size_drew] at hc1 hf1 hz1)) | (go_at_call 54; (with_reducible refine (sall_c _).mono ?_); rintro e w1 ⟨rfl, hb1⟩; obtain ⟨hc1, hf1, hz1⟩ := bcell hb1; (try simp only [World.size_alloc, World.size_setCell, World.size_drew] at hc1 hf1 hz1)) | (go_at_call 51; (with_reducible refine (smeet_c' _ _ _ _ _).mono ?_); rintro e w1 ⟨rfl, hb1⟩; obtain ⟨hc1, hf1, hz1⟩ := bcell hb1; (try simp only [World.size_alloc, World.size_setCell, World.size_drew] at hc1 hf1 hz1)) | (go_at_call 117; (with_reducible refine (swithout_c' _ _ _ _).mono ?_); rintro e w1 ⟨rfl, hb1⟩; obtain ⟨hc1, hf1, hz1⟩ := bcell hb1; (try simp only [World.size_alloc, World.size_setCell, World.size_drew] at hc1 hf1 hz1)))
  refine bodyPost_ret ?_ rfl ⟨rfl, (by repeat' (first | (with_reducible exact Below.refl _ _) | (with_reducible assumption) | (with_reducible refine Below.alloc ?_ ?_ _) | (with_reducible refine Below.setCell ?_ ?_ _) | (with_reducible refine Below.drew ?_) | (with_reducible refine below_dn ?_ _) | (with_reducible refine Below.trans ?_ (Below.mono (by assumption) ?_)) | go_size))⟩
  simp only [results, Try.results100]; simp [*, go_sem, ↓IntWalk.iteOmega]; try (first | rfl | exact ⟨rfl, rfl⟩)

theorem sif_set2 (a b : Sp) (ha : a.right = true) (hb : b.right = true) (h : (a.hi == 0#64) = false) (h' : (b.hi == 0#64) = false) (w : World) : Calls Try.prog 100 #[.int .u8 64, .agg #[.int .u64 (N a.lo), .int .u64 (N a.hi)], .agg #[.int .u64 (N b.lo), .int .u64 (N b.hi)]] w fun e w' => e = .returned (.tuple #[.agg #[.int .u64 (N ((Sp.if_ (64) a b).getD ⟨0, 0⟩).lo), .int .u64 (N ((Sp.if_ (64) a b).getD ⟨0, 0⟩).hi)], .bool (Sp.if_ (64) a b).isSome]) ∧ Below w.heap.size w w' := by
  rw [Sp.if_set2 ha hb (by rw [h, h']; rfl)]
  obtain ⟨m1, m2⟩ := Sp.meet_all ha
  have m1' : Sp.meetOk a ⟨0#64, 18446744073709551615#64⟩ = true := m1
  have m2' : Sp.meet a ⟨0#64, 18446744073709551615#64⟩ = a := m2
  go_enter Try.func100, Try.ntmps100
  go_wp2_with (first | (go_at_call 50; (with_reducible refine (sright_c' _ _ _).mono ?_); rintro e w1 ⟨rfl, hb1⟩; obtain ⟨hc1, hf1, hz1⟩ := bcell hb1; (try simp only [World.size_alloc, World.size_setCell, World.size_drew] at hc1 hf1 hz1)) | (go_at_call 54; (with_reducible refine (sall_c _).mono ?_); rintro e w1 ⟨rfl, hb1⟩; obtain ⟨hc1, hf1, hz1⟩ := bcell hb1; (try simp only [World.size_alloc, World.size_setCell, World.size_drew] at hc1 hf1 hz1)) | (go_at_call 51; (with_reducible refine (smeet_c' _ _ _ _ _).mono ?_); rintro e w1 ⟨rfl, hb1⟩; obtain ⟨hc1, hf1, hz1⟩ := bcell hb1; (try simp only [World.size_alloc, World.size_setCell, World.size_drew] at hc1 hf1 hz1)) | (go_at_call 117; (with_reducible refine (swithout_c' _ _ _ _).mono ?_); rintro e w1 ⟨rfl, hb1⟩; obtain ⟨hc1, hf1, hz1⟩ := bcell hb1; (try simp only [World.size_alloc, World.size_setCell, World.size_drew] at hc1 hf1 hz1)))
  refine bodyPost_ret ?_ rfl ⟨rfl, (by repeat' (first | (with_reducible exact Below.refl _ _) | (with_reducible assumption) | (with_reducible refine Below.alloc ?_ ?_ _) | (with_reducible refine Below.setCell ?_ ?_ _) | (with_reducible refine Below.drew ?_) | (with_reducible refine below_dn ?_ _) | (with_reducible refine Below.trans ?_ (Below.mono (by assumption) ?_)) | go_size))⟩
  simp only [results, Try.results100]; simp [*, go_sem, ↓IntWalk.iteOmega]; try (first | rfl | exact ⟨rfl, rfl⟩)

theorem sif_else (op : Int) (a b : Sp) (ha : a.right = true) (hb : b.right = true) (n16 : ¬ op = 16) (n32 : ¬ op = 32) (n48 : ¬ op = 48) (n160 : ¬ op = 160) (n176 : ¬ op = 176) (n80 : ¬ op = 80) (n64 : ¬ op = 64) (w : World) : Calls Try.prog 100 #[.int .u8 op, .agg #[.int .u64 (N a.lo), .int .u64 (N a.hi)], .agg #[.int .u64 (N b.lo), .int .u64 (N b.hi)]] w fun e w' => e = .returned (.tuple #[.agg #[.int .u64 (N ((Sp.if_ (op) a b).getD ⟨0, 0⟩).lo), .int .u64 (N ((Sp.if_ (op) a b).getD ⟨0, 0⟩).hi)], .bool (Sp.if_ (op) a b).isSome]) ∧ Below w.heap.size w w' := by
  rw [Sp.if_else ha hb op n16 n32 n48 n160 n176 n80 n64]
  obtain ⟨m1, m2⟩ := Sp.meet_all ha
  have m1' : Sp.meetOk a ⟨0#64, 18446744073709551615#64⟩ = true := m1
  have m2' : Sp.meet a ⟨0#64, 18446744073709551615#64⟩ = a := m2
  go_enter Try.func100, Try.ntmps100
  go_wp2_with (first | (go_at_call 50; (with_reducible refine (sright_c' _ _ _).mono ?_); rintro e w1 ⟨rfl, hb1⟩; obtain ⟨hc1, hf1, hz1⟩ := bcell hb1; (try simp only [World.size_alloc, World.size_setCell, World.size_drew] at hc1 hf1 hz1)) | (go_at_call 54; (with_reducible refine (sall_c _).mono ?_); rintro e w1 ⟨rfl, hb1⟩; obtain ⟨hc1, hf1, hz1⟩ := bcell hb1; (try simp only [World.size_alloc, World.size_setCell, World.size_drew] at hc1 hf1 hz1)) | (go_at_call 51; (with_reducible refine (smeet_c' _ _ _ _ _).mono ?_); rintro e w1 ⟨rfl, hb1⟩; obtain ⟨hc1, hf1, hz1⟩ := bcell hb1; (try simp only [World.size_alloc, World.size_setCell, World.size_drew] at hc1 hf1 hz1)) | (go_at_call 117; (with_reducible refine (swithout_c' _ _ _ _).mono ?_); rintro e w1 ⟨rfl, hb1⟩; obtain ⟨hc1, hf1, hz1⟩ := bcell hb1; (try simp only [World.size_alloc, World.size_setCell, World.size_drew] at hc1 hf1 hz1)))
  refine bodyPost_ret ?_ rfl ⟨rfl, (by repeat' (first | (with_reducible exact Below.refl _ _) | (with_reducible assumption) | (with_reducible refine Below.alloc ?_ ?_ _) | (with_reducible refine Below.setCell ?_ ?_ _) | (with_reducible refine Below.drew ?_) | (with_reducible refine below_dn ?_ _) | (with_reducible refine Below.trans ?_ (Below.mono (by assumption) ?_)) | go_size))⟩
  simp only [results, Try.results100]; simp [*, go_sem, ↓IntWalk.iteOmega]; try (first | rfl | exact ⟨rfl, rfl⟩)

theorem sif_c (op : Int) (a b : Sp) (w : World) : Calls Try.prog 100 #[.int .u8 op, .agg #[.int .u64 (N a.lo), .int .u64 (N a.hi)], .agg #[.int .u64 (N b.lo), .int .u64 (N b.hi)]] w fun e w' => e = .returned (.tuple #[.agg #[.int .u64 (N ((Sp.if_ (op) a b).getD ⟨0, 0⟩).lo), .int .u64 (N ((Sp.if_ (op) a b).getD ⟨0, 0⟩).hi)], .bool (Sp.if_ (op) a b).isSome]) ∧ Below w.heap.size w w' := by
  cases ha : a.right
  · exact sif_no1 op a b ha w
  cases hb : b.right
  · exact sif_no2 op a b ha hb w
  by_cases n16 : op = 16
  · subst n16; exact sif_eq a b ha hb w
  by_cases n48 : op = 48
  · subst n48; exact sif_ge a b ha hb w
  by_cases n176 : op = 176
  · subst n176; exact sif_le a b ha hb w
  by_cases n32 : op = 32
  · subst n32
    cases h : (18446744073709551615#64 == b.lo)
    · exact sif_gt2 a b ha hb h w
    · exact sif_gt1 a b ha hb h w
  by_cases n160 : op = 160
  · subst n160
    cases h : (0#64 == b.hi)
    · exact sif_lt2 a b ha hb h w
    · exact sif_lt1 a b ha hb h w
  by_cases n80 : op = 80
  · subst n80
    cases h : (b.lo == b.hi)
    · exact sif_ne2 a b ha hb h w
    · exact sif_ne1 a b ha hb h w
  by_cases n64 : op = 64
  · subst n64
    cases h : (a.hi == 0#64)
    · cases h' : (b.hi == 0#64)
      · exact sif_set2 a b ha hb h h' w
      · exact sif_set1b a b ha hb h h' w
    · exact sif_set1a a b ha hb h w
  exact sif_else op a b ha hb n16 n32 n48 n160 n176 n80 n64 w

theorem sif_c' (x0 : Int) (x1 y1 : BitVec 64) (x2 y2 : BitVec 64) (w : World) : Calls Try.prog 100 #[.int .u8 x0, .agg #[.int .u64 (N x1), .int .u64 (N y1)], .agg #[.int .u64 (N x2), .int .u64 (N y2)]] w fun e w' => e = .returned (.tuple #[.agg #[.int .u64 (N ((Sp.if_ x0 (⟨x1, y1⟩ : Sp) (⟨x2, y2⟩ : Sp)).getD ⟨0, 0⟩).lo), .int .u64 (N ((Sp.if_ x0 (⟨x1, y1⟩ : Sp) (⟨x2, y2⟩ : Sp)).getD ⟨0, 0⟩).hi)], .bool (Sp.if_ x0 (⟨x1, y1⟩ : Sp) (⟨x2, y2⟩ : Sp)).isSome]) ∧ Below w.heap.size w w' := by
  exact sif_c x0 (⟨x1, y1⟩ : Sp) (⟨x2, y2⟩ : Sp) w

end Hk
