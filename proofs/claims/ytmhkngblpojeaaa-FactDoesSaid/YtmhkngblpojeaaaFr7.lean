/- The reference of facts: wide, where both numbers are known, or nothing comes of bits and range; old memory is as it was. No condition but those in each statement. -/
import Derived.Test.YtmhkngblpojeaaaProg
import Derived.Test.YtmhkngblpojeaaaGp
import Derived.Test.YtmhkngblpojeaaaGf
import Derived.Test.YtmhkngblpojeaaaFa7
import Derived.Test.YtmhkngblpojeaaaFr5
import Derived.Test.YtmhkngblpojeaaaSr2
import Derived.Test.YtmhkngblpojeaaaRc5
import Derived.Test.YtmhkngblpojeaaaGl
import Derived.Deep.DeepCutAuto
namespace Hk
open Go Go.RowKit Go.Proofs
set_option linter.unusedSimpArgs false
set_option linter.unusedVariables false
set_option maxRecDepth 100000
attribute [go_sem] Tn.eta Alu.val_some Alu.err_some Alu.val_none Alu.err_none
def WideC (x y z : Fa) (t : Tn) (w wT : World) (w' : World) : Prop := w'.cell? ⟨w.heap.size, 0, none⟩ = some (.int .u64 (N x.t.v)) ∧ w'.cell? ⟨w.heap.size, 1, none⟩ = some (.int .u64 (N x.t.m)) ∧ w'.cell? ⟨w.heap.size, 2, none⟩ = some (.int .u64 (N x.s.lo)) ∧ w'.cell? ⟨w.heap.size, 3, none⟩ = some (.int .u64 (N x.s.hi)) ∧ w'.cell? ⟨w.heap.size + 1, 0, none⟩ = some (.int .u64 (N y.t.v)) ∧ w'.cell? ⟨w.heap.size + 1, 1, none⟩ = some (.int .u64 (N y.t.m)) ∧ w'.cell? ⟨w.heap.size + 1, 2, none⟩ = some (.int .u64 (N y.s.lo)) ∧ w'.cell? ⟨w.heap.size + 1, 3, none⟩ = some (.int .u64 (N y.s.hi)) ∧ w'.cell? ⟨w.heap.size + 1 + 1, 0, none⟩ = some (.int .u64 (N z.t.v)) ∧ w'.cell? ⟨w.heap.size + 1 + 1, 1, none⟩ = some (.int .u64 (N z.t.m)) ∧ w'.cell? ⟨w.heap.size + 1 + 1, 2, none⟩ = some (.int .u64 (N z.s.lo)) ∧ w'.cell? ⟨w.heap.size + 1 + 1, 3, none⟩ = some (.int .u64 (N z.s.hi)) ∧ w'.cell? ⟨wT.heap.size, 0, none⟩ = some (.int .u64 (N t.v)) ∧ w'.cell? ⟨wT.heap.size, 1, none⟩ = some (.int .u64 (N t.m)) ∧ (∀ i, w'.frozen? ⟨w.heap.size + 1, i, none⟩ = false) ∧ (∀ i, w'.frozen? ⟨w.heap.size + 1 + 1, i, none⟩ = false) ∧ Below w.heap.size w w'
theorem WideC_keep {x y z : Fa} {t : Tn} {w wT : World} (w' w1 : World) (h : WideC x y z t w wT w') (hb : Below w'.heap.size w' w1) : WideC x y z t w wT w1 := by
  obtain ⟨k0, k1, k2, k3, k4, k5, k6, k7, k8, k9, k10, k11, k12, k13, k14, k15, k16⟩ := h
  exact ⟨cell_keep hb k0, cell_keep hb k1, cell_keep hb k2, cell_keep hb k3, cell_keep hb k4, cell_keep hb k5, cell_keep hb k6, cell_keep hb k7, cell_keep hb k8, cell_keep hb k9, cell_keep hb k10, cell_keep hb k11, cell_keep hb k12, cell_keep hb k13, frozen_keep hb k4 k14, frozen_keep hb k8 k15, below_next k16 hb⟩

theorem wd_both (op off : Int) (nw : Bool) (x y : Fa) (p q : BitVec 64) (hx : Fa.known x = some p) (hy : Fa.known y = some q) (w : World) : Calls Try.prog 43 #[.int .u8 op, .bool nw, .int .i16 off, .agg #[.int .u64 (N x.t.v), .int .u64 (N x.t.m), .int .u64 (N x.s.lo), .int .u64 (N x.s.hi)], .agg #[.int .u64 (N y.t.v), .int .u64 (N y.t.m), .int .u64 (N y.s.lo), .int .u64 (N y.s.hi)]] w fun e w' => e = .returned (.agg #[.int .u64 (N (Fa.makes op (!nw) off x y).t.v), .int .u64 (N (Fa.makes op (!nw) off x y).t.m), .int .u64 (N (Fa.makes op (!nw) off x y).s.lo), .int .u64 (N (Fa.makes op (!nw) off x y).s.hi)]) ∧ Below w.heap.size w w' := by
  rw [Fa.makes_both hx hy]
  go_enter Try.func43, Try.ntmps43
  go_wp2_with (first | (go_at_call 21; (with_reducible refine (rfknown_c' _ _ _ _ _).mono ?_); rintro e w1 ⟨rfl, hb1⟩; obtain ⟨hc1, hf1, hz1⟩ := bcell hb1; (try simp only [World.size_alloc, World.size_setCell, World.size_drew] at hc1 hf1 hz1)) | (go_at_call 18; (with_reducible refine (rdo_c _ _ _ _ _ _).mono ?_); rintro e w1 ⟨rfl, hb1⟩; obtain ⟨hc1, hf1, hz1⟩ := bcell hb1) | (go_at_call 24; (with_reducible refine (rfof_c' _ _).mono ?_); rintro e w1 ⟨rfl, hb1⟩; obtain ⟨hc1, hf1, hz1⟩ := bcell hb1; (try simp only [World.size_alloc, World.size_setCell, World.size_drew] at hc1 hf1 hz1)) | (go_at_call 26; (with_reducible refine (rfany_c _).mono ?_); rintro e w1 ⟨rfl, hb1⟩; obtain ⟨hc1, hf1, hz1⟩ := bcell hb1; (try simp only [World.size_alloc, World.size_setCell, World.size_drew] at hc1 hf1 hz1)))
  refine bodyPost_ret ?_ rfl ⟨rfl, (by repeat' (first | (with_reducible exact Below.refl _ _) | (with_reducible assumption) | (with_reducible refine Below.alloc ?_ ?_ _) | (with_reducible refine Below.setCell ?_ ?_ _) | (with_reducible refine Below.drew ?_) | (with_reducible refine below_dn ?_ _) | (with_reducible refine Below.trans ?_ (Below.mono (by assumption) ?_)) | go_size))⟩
  simp only [results, Try.results43]; simp [*, go_sem, ↓IntWalk.iteOmega]; try (first | rfl | exact ⟨rfl, rfl⟩)

theorem wd_off176_n (off : Int) (nw : Bool) (x y : Fa) (hx : Fa.known x = none) (hy : Fa.known y = none) (h : ¬ off = 0) (w : World) : Calls Try.prog 43 #[.int .u8 176, .bool nw, .int .i16 off, .agg #[.int .u64 (N x.t.v), .int .u64 (N x.t.m), .int .u64 (N x.s.lo), .int .u64 (N x.s.hi)], .agg #[.int .u64 (N y.t.v), .int .u64 (N y.t.m), .int .u64 (N y.s.lo), .int .u64 (N y.s.hi)]] w fun e w' => e = .returned (.agg #[.int .u64 (N (Fa.makes 176 (!nw) off x y).t.v), .int .u64 (N (Fa.makes 176 (!nw) off x y).t.m), .int .u64 (N (Fa.makes 176 (!nw) off x y).s.lo), .int .u64 (N (Fa.makes 176 (!nw) off x y).s.hi)]) ∧ Below w.heap.size w w' := by
  rw [Fa.mk_off (.inl hx) h]
  have h' : (off == 0) = false := by simpa using h
  go_enter Try.func43, Try.ntmps43
  go_wp2_with (first | (go_at_call 21; (with_reducible refine (rfknown_c' _ _ _ _ _).mono ?_); rintro e w1 ⟨rfl, hb1⟩; obtain ⟨hc1, hf1, hz1⟩ := bcell hb1; (try simp only [World.size_alloc, World.size_setCell, World.size_drew] at hc1 hf1 hz1)) | (go_at_call 18; (with_reducible refine (rdo_c _ _ _ _ _ _).mono ?_); rintro e w1 ⟨rfl, hb1⟩; obtain ⟨hc1, hf1, hz1⟩ := bcell hb1) | (go_at_call 24; (with_reducible refine (rfof_c' _ _).mono ?_); rintro e w1 ⟨rfl, hb1⟩; obtain ⟨hc1, hf1, hz1⟩ := bcell hb1; (try simp only [World.size_alloc, World.size_setCell, World.size_drew] at hc1 hf1 hz1)) | (go_at_call 26; (with_reducible refine (rfany_c _).mono ?_); rintro e w1 ⟨rfl, hb1⟩; obtain ⟨hc1, hf1, hz1⟩ := bcell hb1; (try simp only [World.size_alloc, World.size_setCell, World.size_drew] at hc1 hf1 hz1)))
  refine bodyPost_ret ?_ rfl ⟨rfl, (by repeat' (first | (with_reducible exact Below.refl _ _) | (with_reducible assumption) | (with_reducible refine Below.alloc ?_ ?_ _) | (with_reducible refine Below.setCell ?_ ?_ _) | (with_reducible refine Below.drew ?_) | (with_reducible refine below_dn ?_ _) | (with_reducible refine Below.trans ?_ (Below.mono (by assumption) ?_)) | go_size))⟩
  simp only [results, Try.results43]; simp [*, go_sem, ↓IntWalk.iteOmega]; try (first | rfl | exact ⟨rfl, rfl⟩)

theorem wd_off48_n (off : Int) (nw : Bool) (x y : Fa) (hx : Fa.known x = none) (hy : Fa.known y = none) (h : ¬ off = 0) (w : World) : Calls Try.prog 43 #[.int .u8 48, .bool nw, .int .i16 off, .agg #[.int .u64 (N x.t.v), .int .u64 (N x.t.m), .int .u64 (N x.s.lo), .int .u64 (N x.s.hi)], .agg #[.int .u64 (N y.t.v), .int .u64 (N y.t.m), .int .u64 (N y.s.lo), .int .u64 (N y.s.hi)]] w fun e w' => e = .returned (.agg #[.int .u64 (N (Fa.makes 48 (!nw) off x y).t.v), .int .u64 (N (Fa.makes 48 (!nw) off x y).t.m), .int .u64 (N (Fa.makes 48 (!nw) off x y).s.lo), .int .u64 (N (Fa.makes 48 (!nw) off x y).s.hi)]) ∧ Below w.heap.size w w' := by
  rw [Fa.mk_off (.inl hx) h]
  have h' : (off == 0) = false := by simpa using h
  go_enter Try.func43, Try.ntmps43
  go_wp2_with (first | (go_at_call 21; (with_reducible refine (rfknown_c' _ _ _ _ _).mono ?_); rintro e w1 ⟨rfl, hb1⟩; obtain ⟨hc1, hf1, hz1⟩ := bcell hb1; (try simp only [World.size_alloc, World.size_setCell, World.size_drew] at hc1 hf1 hz1)) | (go_at_call 18; (with_reducible refine (rdo_c _ _ _ _ _ _).mono ?_); rintro e w1 ⟨rfl, hb1⟩; obtain ⟨hc1, hf1, hz1⟩ := bcell hb1) | (go_at_call 24; (with_reducible refine (rfof_c' _ _).mono ?_); rintro e w1 ⟨rfl, hb1⟩; obtain ⟨hc1, hf1, hz1⟩ := bcell hb1; (try simp only [World.size_alloc, World.size_setCell, World.size_drew] at hc1 hf1 hz1)) | (go_at_call 26; (with_reducible refine (rfany_c _).mono ?_); rintro e w1 ⟨rfl, hb1⟩; obtain ⟨hc1, hf1, hz1⟩ := bcell hb1; (try simp only [World.size_alloc, World.size_setCell, World.size_drew] at hc1 hf1 hz1)))
  refine bodyPost_ret ?_ rfl ⟨rfl, (by repeat' (first | (with_reducible exact Below.refl _ _) | (with_reducible assumption) | (with_reducible refine Below.alloc ?_ ?_ _) | (with_reducible refine Below.setCell ?_ ?_ _) | (with_reducible refine Below.drew ?_) | (with_reducible refine below_dn ?_ _) | (with_reducible refine Below.trans ?_ (Below.mono (by assumption) ?_)) | go_size))⟩
  simp only [results, Try.results43]; simp [*, go_sem, ↓IntWalk.iteOmega]; try (first | rfl | exact ⟨rfl, rfl⟩)

theorem wd_off144_n (off : Int) (nw : Bool) (x y : Fa) (hx : Fa.known x = none) (hy : Fa.known y = none) (h : ¬ off = 0) (w : World) : Calls Try.prog 43 #[.int .u8 144, .bool nw, .int .i16 off, .agg #[.int .u64 (N x.t.v), .int .u64 (N x.t.m), .int .u64 (N x.s.lo), .int .u64 (N x.s.hi)], .agg #[.int .u64 (N y.t.v), .int .u64 (N y.t.m), .int .u64 (N y.s.lo), .int .u64 (N y.s.hi)]] w fun e w' => e = .returned (.agg #[.int .u64 (N (Fa.makes 144 (!nw) off x y).t.v), .int .u64 (N (Fa.makes 144 (!nw) off x y).t.m), .int .u64 (N (Fa.makes 144 (!nw) off x y).s.lo), .int .u64 (N (Fa.makes 144 (!nw) off x y).s.hi)]) ∧ Below w.heap.size w w' := by
  rw [Fa.mk_off (.inl hx) h]
  have h' : (off == 0) = false := by simpa using h
  go_enter Try.func43, Try.ntmps43
  go_wp2_with (first | (go_at_call 21; (with_reducible refine (rfknown_c' _ _ _ _ _).mono ?_); rintro e w1 ⟨rfl, hb1⟩; obtain ⟨hc1, hf1, hz1⟩ := bcell hb1; (try simp only [World.size_alloc, World.size_setCell, World.size_drew] at hc1 hf1 hz1)) | (go_at_call 18; (with_reducible refine (rdo_c _ _ _ _ _ _).mono ?_); rintro e w1 ⟨rfl, hb1⟩; obtain ⟨hc1, hf1, hz1⟩ := bcell hb1) | (go_at_call 24; (with_reducible refine (rfof_c' _ _).mono ?_); rintro e w1 ⟨rfl, hb1⟩; obtain ⟨hc1, hf1, hz1⟩ := bcell hb1; (try simp only [World.size_alloc, World.size_setCell, World.size_drew] at hc1 hf1 hz1)) | (go_at_call 26; (with_reducible refine (rfany_c _).mono ?_); rintro e w1 ⟨rfl, hb1⟩; obtain ⟨hc1, hf1, hz1⟩ := bcell hb1; (try simp only [World.size_alloc, World.size_setCell, World.size_drew] at hc1 hf1 hz1)))
  refine bodyPost_ret ?_ rfl ⟨rfl, (by repeat' (first | (with_reducible exact Below.refl _ _) | (with_reducible assumption) | (with_reducible refine Below.alloc ?_ ?_ _) | (with_reducible refine Below.setCell ?_ ?_ _) | (with_reducible refine Below.drew ?_) | (with_reducible refine below_dn ?_ _) | (with_reducible refine Below.trans ?_ (Below.mono (by assumption) ?_)) | go_size))⟩
  simp only [results, Try.results43]; simp [*, go_sem, ↓IntWalk.iteOmega]; try (first | rfl | exact ⟨rfl, rfl⟩)

theorem wd_mov_n (nw : Bool) (x y : Fa) (hx : Fa.known x = none) (hy : Fa.known y = none) (w : World) : Calls Try.prog 43 #[.int .u8 176, .bool nw, .int .i16 0, .agg #[.int .u64 (N x.t.v), .int .u64 (N x.t.m), .int .u64 (N x.s.lo), .int .u64 (N x.s.hi)], .agg #[.int .u64 (N y.t.v), .int .u64 (N y.t.m), .int .u64 (N y.s.lo), .int .u64 (N y.s.hi)]] w fun e w' => e = .returned (.agg #[.int .u64 (N (Fa.makes 176 (!nw) 0 x y).t.v), .int .u64 (N (Fa.makes 176 (!nw) 0 x y).t.m), .int .u64 (N (Fa.makes 176 (!nw) 0 x y).s.lo), .int .u64 (N (Fa.makes 176 (!nw) 0 x y).s.hi)]) ∧ Below w.heap.size w w' := by
  rw [Fa.mk_mov (.inl hx)]
  go_enter Try.func43, Try.ntmps43
  go_wp2_with (first | (go_at_call 21; (with_reducible refine (rfknown_c' _ _ _ _ _).mono ?_); rintro e w1 ⟨rfl, hb1⟩; obtain ⟨hc1, hf1, hz1⟩ := bcell hb1; (try simp only [World.size_alloc, World.size_setCell, World.size_drew] at hc1 hf1 hz1)) | (go_at_call 18; (with_reducible refine (rdo_c _ _ _ _ _ _).mono ?_); rintro e w1 ⟨rfl, hb1⟩; obtain ⟨hc1, hf1, hz1⟩ := bcell hb1) | (go_at_call 24; (with_reducible refine (rfof_c' _ _).mono ?_); rintro e w1 ⟨rfl, hb1⟩; obtain ⟨hc1, hf1, hz1⟩ := bcell hb1; (try simp only [World.size_alloc, World.size_setCell, World.size_drew] at hc1 hf1 hz1)) | (go_at_call 26; (with_reducible refine (rfany_c _).mono ?_); rintro e w1 ⟨rfl, hb1⟩; obtain ⟨hc1, hf1, hz1⟩ := bcell hb1; (try simp only [World.size_alloc, World.size_setCell, World.size_drew] at hc1 hf1 hz1)))
  refine bodyPost_ret ?_ rfl ⟨rfl, (by repeat' (first | (with_reducible exact Below.refl _ _) | (with_reducible assumption) | (with_reducible refine Below.alloc ?_ ?_ _) | (with_reducible refine Below.setCell ?_ ?_ _) | (with_reducible refine Below.drew ?_) | (with_reducible refine below_dn ?_ _) | (with_reducible refine Below.trans ?_ (Below.mono (by assumption) ?_)) | go_size))⟩
  simp only [results, Try.results43]; simp [*, go_sem, ↓IntWalk.iteOmega]; try (first | rfl | exact ⟨rfl, rfl⟩)

theorem wd_else_n (op : Int) (nw : Bool) (x y : Fa) (hx : Fa.known x = none) (hy : Fa.known y = none) (n176 : ¬ op = 176) (n0 : ¬ op = 0) (n16 : ¬ op = 16) (n32 : ¬ op = 32) (n80 : ¬ op = 80) (n64 : ¬ op = 64) (n160 : ¬ op = 160) (n96 : ¬ op = 96) (n112 : ¬ op = 112) (n48 : ¬ op = 48) (n144 : ¬ op = 144) (w : World) : Calls Try.prog 43 #[.int .u8 op, .bool nw, .int .i16 0, .agg #[.int .u64 (N x.t.v), .int .u64 (N x.t.m), .int .u64 (N x.s.lo), .int .u64 (N x.s.hi)], .agg #[.int .u64 (N y.t.v), .int .u64 (N y.t.m), .int .u64 (N y.s.lo), .int .u64 (N y.s.hi)]] w fun e w' => e = .returned (.agg #[.int .u64 (N (Fa.makes op (!nw) 0 x y).t.v), .int .u64 (N (Fa.makes op (!nw) 0 x y).t.m), .int .u64 (N (Fa.makes op (!nw) 0 x y).s.lo), .int .u64 (N (Fa.makes op (!nw) 0 x y).s.hi)]) ∧ Below w.heap.size w w' := by
  rw [Fa.mk_else (.inl hx) n176 n0 n16 n32 n80 n64 n160 n96 n112 n48 n144]
  have b176 : (op == 176) = false := by simpa using n176
  have b0 : (op == 0) = false := by simpa using n0
  have b16 : (op == 16) = false := by simpa using n16
  have b32 : (op == 32) = false := by simpa using n32
  have b80 : (op == 80) = false := by simpa using n80
  have b64 : (op == 64) = false := by simpa using n64
  have b160 : (op == 160) = false := by simpa using n160
  have b96 : (op == 96) = false := by simpa using n96
  have b112 : (op == 112) = false := by simpa using n112
  have b48 : (op == 48) = false := by simpa using n48
  have b144 : (op == 144) = false := by simpa using n144
  have c176 : (op != 176) = true := by simpa using n176
  have c0 : (op != 0) = true := by simpa using n0
  have c16 : (op != 16) = true := by simpa using n16
  have c32 : (op != 32) = true := by simpa using n32
  have c80 : (op != 80) = true := by simpa using n80
  have c64 : (op != 64) = true := by simpa using n64
  have c160 : (op != 160) = true := by simpa using n160
  have c96 : (op != 96) = true := by simpa using n96
  have c112 : (op != 112) = true := by simpa using n112
  have c48 : (op != 48) = true := by simpa using n48
  have c144 : (op != 144) = true := by simpa using n144
  go_enter Try.func43, Try.ntmps43
  go_wp2_with (first | (go_at_call 21; (with_reducible refine (rfknown_c' _ _ _ _ _).mono ?_); rintro e w1 ⟨rfl, hb1⟩; obtain ⟨hc1, hf1, hz1⟩ := bcell hb1; (try simp only [World.size_alloc, World.size_setCell, World.size_drew] at hc1 hf1 hz1)) | (go_at_call 18; (with_reducible refine (rdo_c _ _ _ _ _ _).mono ?_); rintro e w1 ⟨rfl, hb1⟩; obtain ⟨hc1, hf1, hz1⟩ := bcell hb1) | (go_at_call 24; (with_reducible refine (rfof_c' _ _).mono ?_); rintro e w1 ⟨rfl, hb1⟩; obtain ⟨hc1, hf1, hz1⟩ := bcell hb1; (try simp only [World.size_alloc, World.size_setCell, World.size_drew] at hc1 hf1 hz1)) | (go_at_call 26; (with_reducible refine (rfany_c _).mono ?_); rintro e w1 ⟨rfl, hb1⟩; obtain ⟨hc1, hf1, hz1⟩ := bcell hb1; (try simp only [World.size_alloc, World.size_setCell, World.size_drew] at hc1 hf1 hz1)))
  refine bodyPost_ret ?_ rfl ⟨rfl, (by repeat' (first | (with_reducible exact Below.refl _ _) | (with_reducible assumption) | (with_reducible refine Below.alloc ?_ ?_ _) | (with_reducible refine Below.setCell ?_ ?_ _) | (with_reducible refine Below.drew ?_) | (with_reducible refine below_dn ?_ _) | (with_reducible refine Below.trans ?_ (Below.mono (by assumption) ?_)) | go_size))⟩
  simp only [results, Try.results43]; simp [*, go_sem, ↓IntWalk.iteOmega]; try (first | rfl | exact ⟨rfl, rfl⟩)

theorem wd_off176_b (off : Int) (nw : Bool) (x y : Fa) (p : BitVec 64) (hx : Fa.known x = some p) (hy : Fa.known y = none) (h : ¬ off = 0) (w : World) : Calls Try.prog 43 #[.int .u8 176, .bool nw, .int .i16 off, .agg #[.int .u64 (N x.t.v), .int .u64 (N x.t.m), .int .u64 (N x.s.lo), .int .u64 (N x.s.hi)], .agg #[.int .u64 (N y.t.v), .int .u64 (N y.t.m), .int .u64 (N y.s.lo), .int .u64 (N y.s.hi)]] w fun e w' => e = .returned (.agg #[.int .u64 (N (Fa.makes 176 (!nw) off x y).t.v), .int .u64 (N (Fa.makes 176 (!nw) off x y).t.m), .int .u64 (N (Fa.makes 176 (!nw) off x y).s.lo), .int .u64 (N (Fa.makes 176 (!nw) off x y).s.hi)]) ∧ Below w.heap.size w w' := by
  rw [Fa.mk_off (.inr hy) h]
  have h' : (off == 0) = false := by simpa using h
  go_enter Try.func43, Try.ntmps43
  go_wp2_with (first | (go_at_call 21; (with_reducible refine (rfknown_c' _ _ _ _ _).mono ?_); rintro e w1 ⟨rfl, hb1⟩; obtain ⟨hc1, hf1, hz1⟩ := bcell hb1; (try simp only [World.size_alloc, World.size_setCell, World.size_drew] at hc1 hf1 hz1)) | (go_at_call 18; (with_reducible refine (rdo_c _ _ _ _ _ _).mono ?_); rintro e w1 ⟨rfl, hb1⟩; obtain ⟨hc1, hf1, hz1⟩ := bcell hb1) | (go_at_call 24; (with_reducible refine (rfof_c' _ _).mono ?_); rintro e w1 ⟨rfl, hb1⟩; obtain ⟨hc1, hf1, hz1⟩ := bcell hb1; (try simp only [World.size_alloc, World.size_setCell, World.size_drew] at hc1 hf1 hz1)) | (go_at_call 26; (with_reducible refine (rfany_c _).mono ?_); rintro e w1 ⟨rfl, hb1⟩; obtain ⟨hc1, hf1, hz1⟩ := bcell hb1; (try simp only [World.size_alloc, World.size_setCell, World.size_drew] at hc1 hf1 hz1)))
  refine bodyPost_ret ?_ rfl ⟨rfl, (by repeat' (first | (with_reducible exact Below.refl _ _) | (with_reducible assumption) | (with_reducible refine Below.alloc ?_ ?_ _) | (with_reducible refine Below.setCell ?_ ?_ _) | (with_reducible refine Below.drew ?_) | (with_reducible refine below_dn ?_ _) | (with_reducible refine Below.trans ?_ (Below.mono (by assumption) ?_)) | go_size))⟩
  simp only [results, Try.results43]; simp [*, go_sem, ↓IntWalk.iteOmega]; try (first | rfl | exact ⟨rfl, rfl⟩)

theorem wd_off48_b (off : Int) (nw : Bool) (x y : Fa) (p : BitVec 64) (hx : Fa.known x = some p) (hy : Fa.known y = none) (h : ¬ off = 0) (w : World) : Calls Try.prog 43 #[.int .u8 48, .bool nw, .int .i16 off, .agg #[.int .u64 (N x.t.v), .int .u64 (N x.t.m), .int .u64 (N x.s.lo), .int .u64 (N x.s.hi)], .agg #[.int .u64 (N y.t.v), .int .u64 (N y.t.m), .int .u64 (N y.s.lo), .int .u64 (N y.s.hi)]] w fun e w' => e = .returned (.agg #[.int .u64 (N (Fa.makes 48 (!nw) off x y).t.v), .int .u64 (N (Fa.makes 48 (!nw) off x y).t.m), .int .u64 (N (Fa.makes 48 (!nw) off x y).s.lo), .int .u64 (N (Fa.makes 48 (!nw) off x y).s.hi)]) ∧ Below w.heap.size w w' := by
  rw [Fa.mk_off (.inr hy) h]
  have h' : (off == 0) = false := by simpa using h
  go_enter Try.func43, Try.ntmps43
  go_wp2_with (first | (go_at_call 21; (with_reducible refine (rfknown_c' _ _ _ _ _).mono ?_); rintro e w1 ⟨rfl, hb1⟩; obtain ⟨hc1, hf1, hz1⟩ := bcell hb1; (try simp only [World.size_alloc, World.size_setCell, World.size_drew] at hc1 hf1 hz1)) | (go_at_call 18; (with_reducible refine (rdo_c _ _ _ _ _ _).mono ?_); rintro e w1 ⟨rfl, hb1⟩; obtain ⟨hc1, hf1, hz1⟩ := bcell hb1) | (go_at_call 24; (with_reducible refine (rfof_c' _ _).mono ?_); rintro e w1 ⟨rfl, hb1⟩; obtain ⟨hc1, hf1, hz1⟩ := bcell hb1; (try simp only [World.size_alloc, World.size_setCell, World.size_drew] at hc1 hf1 hz1)) | (go_at_call 26; (with_reducible refine (rfany_c _).mono ?_); rintro e w1 ⟨rfl, hb1⟩; obtain ⟨hc1, hf1, hz1⟩ := bcell hb1; (try simp only [World.size_alloc, World.size_setCell, World.size_drew] at hc1 hf1 hz1)))
  refine bodyPost_ret ?_ rfl ⟨rfl, (by repeat' (first | (with_reducible exact Below.refl _ _) | (with_reducible assumption) | (with_reducible refine Below.alloc ?_ ?_ _) | (with_reducible refine Below.setCell ?_ ?_ _) | (with_reducible refine Below.drew ?_) | (with_reducible refine below_dn ?_ _) | (with_reducible refine Below.trans ?_ (Below.mono (by assumption) ?_)) | go_size))⟩
  simp only [results, Try.results43]; simp [*, go_sem, ↓IntWalk.iteOmega]; try (first | rfl | exact ⟨rfl, rfl⟩)

theorem wd_off144_b (off : Int) (nw : Bool) (x y : Fa) (p : BitVec 64) (hx : Fa.known x = some p) (hy : Fa.known y = none) (h : ¬ off = 0) (w : World) : Calls Try.prog 43 #[.int .u8 144, .bool nw, .int .i16 off, .agg #[.int .u64 (N x.t.v), .int .u64 (N x.t.m), .int .u64 (N x.s.lo), .int .u64 (N x.s.hi)], .agg #[.int .u64 (N y.t.v), .int .u64 (N y.t.m), .int .u64 (N y.s.lo), .int .u64 (N y.s.hi)]] w fun e w' => e = .returned (.agg #[.int .u64 (N (Fa.makes 144 (!nw) off x y).t.v), .int .u64 (N (Fa.makes 144 (!nw) off x y).t.m), .int .u64 (N (Fa.makes 144 (!nw) off x y).s.lo), .int .u64 (N (Fa.makes 144 (!nw) off x y).s.hi)]) ∧ Below w.heap.size w w' := by
  rw [Fa.mk_off (.inr hy) h]
  have h' : (off == 0) = false := by simpa using h
  go_enter Try.func43, Try.ntmps43
  go_wp2_with (first | (go_at_call 21; (with_reducible refine (rfknown_c' _ _ _ _ _).mono ?_); rintro e w1 ⟨rfl, hb1⟩; obtain ⟨hc1, hf1, hz1⟩ := bcell hb1; (try simp only [World.size_alloc, World.size_setCell, World.size_drew] at hc1 hf1 hz1)) | (go_at_call 18; (with_reducible refine (rdo_c _ _ _ _ _ _).mono ?_); rintro e w1 ⟨rfl, hb1⟩; obtain ⟨hc1, hf1, hz1⟩ := bcell hb1) | (go_at_call 24; (with_reducible refine (rfof_c' _ _).mono ?_); rintro e w1 ⟨rfl, hb1⟩; obtain ⟨hc1, hf1, hz1⟩ := bcell hb1; (try simp only [World.size_alloc, World.size_setCell, World.size_drew] at hc1 hf1 hz1)) | (go_at_call 26; (with_reducible refine (rfany_c _).mono ?_); rintro e w1 ⟨rfl, hb1⟩; obtain ⟨hc1, hf1, hz1⟩ := bcell hb1; (try simp only [World.size_alloc, World.size_setCell, World.size_drew] at hc1 hf1 hz1)))
  refine bodyPost_ret ?_ rfl ⟨rfl, (by repeat' (first | (with_reducible exact Below.refl _ _) | (with_reducible assumption) | (with_reducible refine Below.alloc ?_ ?_ _) | (with_reducible refine Below.setCell ?_ ?_ _) | (with_reducible refine Below.drew ?_) | (with_reducible refine below_dn ?_ _) | (with_reducible refine Below.trans ?_ (Below.mono (by assumption) ?_)) | go_size))⟩
  simp only [results, Try.results43]; simp [*, go_sem, ↓IntWalk.iteOmega]; try (first | rfl | exact ⟨rfl, rfl⟩)

theorem wd_mov_b (nw : Bool) (x y : Fa) (p : BitVec 64) (hx : Fa.known x = some p) (hy : Fa.known y = none) (w : World) : Calls Try.prog 43 #[.int .u8 176, .bool nw, .int .i16 0, .agg #[.int .u64 (N x.t.v), .int .u64 (N x.t.m), .int .u64 (N x.s.lo), .int .u64 (N x.s.hi)], .agg #[.int .u64 (N y.t.v), .int .u64 (N y.t.m), .int .u64 (N y.s.lo), .int .u64 (N y.s.hi)]] w fun e w' => e = .returned (.agg #[.int .u64 (N (Fa.makes 176 (!nw) 0 x y).t.v), .int .u64 (N (Fa.makes 176 (!nw) 0 x y).t.m), .int .u64 (N (Fa.makes 176 (!nw) 0 x y).s.lo), .int .u64 (N (Fa.makes 176 (!nw) 0 x y).s.hi)]) ∧ Below w.heap.size w w' := by
  rw [Fa.mk_mov (.inr hy)]
  go_enter Try.func43, Try.ntmps43
  go_wp2_with (first | (go_at_call 21; (with_reducible refine (rfknown_c' _ _ _ _ _).mono ?_); rintro e w1 ⟨rfl, hb1⟩; obtain ⟨hc1, hf1, hz1⟩ := bcell hb1; (try simp only [World.size_alloc, World.size_setCell, World.size_drew] at hc1 hf1 hz1)) | (go_at_call 18; (with_reducible refine (rdo_c _ _ _ _ _ _).mono ?_); rintro e w1 ⟨rfl, hb1⟩; obtain ⟨hc1, hf1, hz1⟩ := bcell hb1) | (go_at_call 24; (with_reducible refine (rfof_c' _ _).mono ?_); rintro e w1 ⟨rfl, hb1⟩; obtain ⟨hc1, hf1, hz1⟩ := bcell hb1; (try simp only [World.size_alloc, World.size_setCell, World.size_drew] at hc1 hf1 hz1)) | (go_at_call 26; (with_reducible refine (rfany_c _).mono ?_); rintro e w1 ⟨rfl, hb1⟩; obtain ⟨hc1, hf1, hz1⟩ := bcell hb1; (try simp only [World.size_alloc, World.size_setCell, World.size_drew] at hc1 hf1 hz1)))
  refine bodyPost_ret ?_ rfl ⟨rfl, (by repeat' (first | (with_reducible exact Below.refl _ _) | (with_reducible assumption) | (with_reducible refine Below.alloc ?_ ?_ _) | (with_reducible refine Below.setCell ?_ ?_ _) | (with_reducible refine Below.drew ?_) | (with_reducible refine below_dn ?_ _) | (with_reducible refine Below.trans ?_ (Below.mono (by assumption) ?_)) | go_size))⟩
  simp only [results, Try.results43]; simp [*, go_sem, ↓IntWalk.iteOmega]; try (first | rfl | exact ⟨rfl, rfl⟩)

theorem wd_else_b (op : Int) (nw : Bool) (x y : Fa) (p : BitVec 64) (hx : Fa.known x = some p) (hy : Fa.known y = none) (n176 : ¬ op = 176) (n0 : ¬ op = 0) (n16 : ¬ op = 16) (n32 : ¬ op = 32) (n80 : ¬ op = 80) (n64 : ¬ op = 64) (n160 : ¬ op = 160) (n96 : ¬ op = 96) (n112 : ¬ op = 112) (n48 : ¬ op = 48) (n144 : ¬ op = 144) (w : World) : Calls Try.prog 43 #[.int .u8 op, .bool nw, .int .i16 0, .agg #[.int .u64 (N x.t.v), .int .u64 (N x.t.m), .int .u64 (N x.s.lo), .int .u64 (N x.s.hi)], .agg #[.int .u64 (N y.t.v), .int .u64 (N y.t.m), .int .u64 (N y.s.lo), .int .u64 (N y.s.hi)]] w fun e w' => e = .returned (.agg #[.int .u64 (N (Fa.makes op (!nw) 0 x y).t.v), .int .u64 (N (Fa.makes op (!nw) 0 x y).t.m), .int .u64 (N (Fa.makes op (!nw) 0 x y).s.lo), .int .u64 (N (Fa.makes op (!nw) 0 x y).s.hi)]) ∧ Below w.heap.size w w' := by
  rw [Fa.mk_else (.inr hy) n176 n0 n16 n32 n80 n64 n160 n96 n112 n48 n144]
  have b176 : (op == 176) = false := by simpa using n176
  have b0 : (op == 0) = false := by simpa using n0
  have b16 : (op == 16) = false := by simpa using n16
  have b32 : (op == 32) = false := by simpa using n32
  have b80 : (op == 80) = false := by simpa using n80
  have b64 : (op == 64) = false := by simpa using n64
  have b160 : (op == 160) = false := by simpa using n160
  have b96 : (op == 96) = false := by simpa using n96
  have b112 : (op == 112) = false := by simpa using n112
  have b48 : (op == 48) = false := by simpa using n48
  have b144 : (op == 144) = false := by simpa using n144
  have c176 : (op != 176) = true := by simpa using n176
  have c0 : (op != 0) = true := by simpa using n0
  have c16 : (op != 16) = true := by simpa using n16
  have c32 : (op != 32) = true := by simpa using n32
  have c80 : (op != 80) = true := by simpa using n80
  have c64 : (op != 64) = true := by simpa using n64
  have c160 : (op != 160) = true := by simpa using n160
  have c96 : (op != 96) = true := by simpa using n96
  have c112 : (op != 112) = true := by simpa using n112
  have c48 : (op != 48) = true := by simpa using n48
  have c144 : (op != 144) = true := by simpa using n144
  go_enter Try.func43, Try.ntmps43
  go_wp2_with (first | (go_at_call 21; (with_reducible refine (rfknown_c' _ _ _ _ _).mono ?_); rintro e w1 ⟨rfl, hb1⟩; obtain ⟨hc1, hf1, hz1⟩ := bcell hb1; (try simp only [World.size_alloc, World.size_setCell, World.size_drew] at hc1 hf1 hz1)) | (go_at_call 18; (with_reducible refine (rdo_c _ _ _ _ _ _).mono ?_); rintro e w1 ⟨rfl, hb1⟩; obtain ⟨hc1, hf1, hz1⟩ := bcell hb1) | (go_at_call 24; (with_reducible refine (rfof_c' _ _).mono ?_); rintro e w1 ⟨rfl, hb1⟩; obtain ⟨hc1, hf1, hz1⟩ := bcell hb1; (try simp only [World.size_alloc, World.size_setCell, World.size_drew] at hc1 hf1 hz1)) | (go_at_call 26; (with_reducible refine (rfany_c _).mono ?_); rintro e w1 ⟨rfl, hb1⟩; obtain ⟨hc1, hf1, hz1⟩ := bcell hb1; (try simp only [World.size_alloc, World.size_setCell, World.size_drew] at hc1 hf1 hz1)))
  refine bodyPost_ret ?_ rfl ⟨rfl, (by repeat' (first | (with_reducible exact Below.refl _ _) | (with_reducible assumption) | (with_reducible refine Below.alloc ?_ ?_ _) | (with_reducible refine Below.setCell ?_ ?_ _) | (with_reducible refine Below.drew ?_) | (with_reducible refine below_dn ?_ _) | (with_reducible refine Below.trans ?_ (Below.mono (by assumption) ?_)) | go_size))⟩
  simp only [results, Try.results43]; simp [*, go_sem, ↓IntWalk.iteOmega]; try (first | rfl | exact ⟨rfl, rfl⟩)

theorem wd_off176_s (off : Int) (nw : Bool) (x y : Fa) (q : BitVec 64) (hx : Fa.known x = none) (hy : Fa.known y = some q) (h : ¬ off = 0) (w : World) : Calls Try.prog 43 #[.int .u8 176, .bool nw, .int .i16 off, .agg #[.int .u64 (N x.t.v), .int .u64 (N x.t.m), .int .u64 (N x.s.lo), .int .u64 (N x.s.hi)], .agg #[.int .u64 (N y.t.v), .int .u64 (N y.t.m), .int .u64 (N y.s.lo), .int .u64 (N y.s.hi)]] w fun e w' => e = .returned (.agg #[.int .u64 (N (Fa.makes 176 (!nw) off x y).t.v), .int .u64 (N (Fa.makes 176 (!nw) off x y).t.m), .int .u64 (N (Fa.makes 176 (!nw) off x y).s.lo), .int .u64 (N (Fa.makes 176 (!nw) off x y).s.hi)]) ∧ Below w.heap.size w w' := by
  rw [Fa.mk_off (.inl hx) h]
  have h' : (off == 0) = false := by simpa using h
  go_enter Try.func43, Try.ntmps43
  go_wp2_with (first | (go_at_call 21; (with_reducible refine (rfknown_c' _ _ _ _ _).mono ?_); rintro e w1 ⟨rfl, hb1⟩; obtain ⟨hc1, hf1, hz1⟩ := bcell hb1; (try simp only [World.size_alloc, World.size_setCell, World.size_drew] at hc1 hf1 hz1)) | (go_at_call 18; (with_reducible refine (rdo_c _ _ _ _ _ _).mono ?_); rintro e w1 ⟨rfl, hb1⟩; obtain ⟨hc1, hf1, hz1⟩ := bcell hb1) | (go_at_call 24; (with_reducible refine (rfof_c' _ _).mono ?_); rintro e w1 ⟨rfl, hb1⟩; obtain ⟨hc1, hf1, hz1⟩ := bcell hb1; (try simp only [World.size_alloc, World.size_setCell, World.size_drew] at hc1 hf1 hz1)) | (go_at_call 26; (with_reducible refine (rfany_c _).mono ?_); rintro e w1 ⟨rfl, hb1⟩; obtain ⟨hc1, hf1, hz1⟩ := bcell hb1; (try simp only [World.size_alloc, World.size_setCell, World.size_drew] at hc1 hf1 hz1)))
  refine bodyPost_ret ?_ rfl ⟨rfl, (by repeat' (first | (with_reducible exact Below.refl _ _) | (with_reducible assumption) | (with_reducible refine Below.alloc ?_ ?_ _) | (with_reducible refine Below.setCell ?_ ?_ _) | (with_reducible refine Below.drew ?_) | (with_reducible refine below_dn ?_ _) | (with_reducible refine Below.trans ?_ (Below.mono (by assumption) ?_)) | go_size))⟩
  simp only [results, Try.results43]; simp [*, go_sem, ↓IntWalk.iteOmega]; try (first | rfl | exact ⟨rfl, rfl⟩)

theorem wd_off48_s (off : Int) (nw : Bool) (x y : Fa) (q : BitVec 64) (hx : Fa.known x = none) (hy : Fa.known y = some q) (h : ¬ off = 0) (w : World) : Calls Try.prog 43 #[.int .u8 48, .bool nw, .int .i16 off, .agg #[.int .u64 (N x.t.v), .int .u64 (N x.t.m), .int .u64 (N x.s.lo), .int .u64 (N x.s.hi)], .agg #[.int .u64 (N y.t.v), .int .u64 (N y.t.m), .int .u64 (N y.s.lo), .int .u64 (N y.s.hi)]] w fun e w' => e = .returned (.agg #[.int .u64 (N (Fa.makes 48 (!nw) off x y).t.v), .int .u64 (N (Fa.makes 48 (!nw) off x y).t.m), .int .u64 (N (Fa.makes 48 (!nw) off x y).s.lo), .int .u64 (N (Fa.makes 48 (!nw) off x y).s.hi)]) ∧ Below w.heap.size w w' := by
  rw [Fa.mk_off (.inl hx) h]
  have h' : (off == 0) = false := by simpa using h
  go_enter Try.func43, Try.ntmps43
  go_wp2_with (first | (go_at_call 21; (with_reducible refine (rfknown_c' _ _ _ _ _).mono ?_); rintro e w1 ⟨rfl, hb1⟩; obtain ⟨hc1, hf1, hz1⟩ := bcell hb1; (try simp only [World.size_alloc, World.size_setCell, World.size_drew] at hc1 hf1 hz1)) | (go_at_call 18; (with_reducible refine (rdo_c _ _ _ _ _ _).mono ?_); rintro e w1 ⟨rfl, hb1⟩; obtain ⟨hc1, hf1, hz1⟩ := bcell hb1) | (go_at_call 24; (with_reducible refine (rfof_c' _ _).mono ?_); rintro e w1 ⟨rfl, hb1⟩; obtain ⟨hc1, hf1, hz1⟩ := bcell hb1; (try simp only [World.size_alloc, World.size_setCell, World.size_drew] at hc1 hf1 hz1)) | (go_at_call 26; (with_reducible refine (rfany_c _).mono ?_); rintro e w1 ⟨rfl, hb1⟩; obtain ⟨hc1, hf1, hz1⟩ := bcell hb1; (try simp only [World.size_alloc, World.size_setCell, World.size_drew] at hc1 hf1 hz1)))
  refine bodyPost_ret ?_ rfl ⟨rfl, (by repeat' (first | (with_reducible exact Below.refl _ _) | (with_reducible assumption) | (with_reducible refine Below.alloc ?_ ?_ _) | (with_reducible refine Below.setCell ?_ ?_ _) | (with_reducible refine Below.drew ?_) | (with_reducible refine below_dn ?_ _) | (with_reducible refine Below.trans ?_ (Below.mono (by assumption) ?_)) | go_size))⟩
  simp only [results, Try.results43]; simp [*, go_sem, ↓IntWalk.iteOmega]; try (first | rfl | exact ⟨rfl, rfl⟩)

theorem wd_off144_s (off : Int) (nw : Bool) (x y : Fa) (q : BitVec 64) (hx : Fa.known x = none) (hy : Fa.known y = some q) (h : ¬ off = 0) (w : World) : Calls Try.prog 43 #[.int .u8 144, .bool nw, .int .i16 off, .agg #[.int .u64 (N x.t.v), .int .u64 (N x.t.m), .int .u64 (N x.s.lo), .int .u64 (N x.s.hi)], .agg #[.int .u64 (N y.t.v), .int .u64 (N y.t.m), .int .u64 (N y.s.lo), .int .u64 (N y.s.hi)]] w fun e w' => e = .returned (.agg #[.int .u64 (N (Fa.makes 144 (!nw) off x y).t.v), .int .u64 (N (Fa.makes 144 (!nw) off x y).t.m), .int .u64 (N (Fa.makes 144 (!nw) off x y).s.lo), .int .u64 (N (Fa.makes 144 (!nw) off x y).s.hi)]) ∧ Below w.heap.size w w' := by
  rw [Fa.mk_off (.inl hx) h]
  have h' : (off == 0) = false := by simpa using h
  go_enter Try.func43, Try.ntmps43
  go_wp2_with (first | (go_at_call 21; (with_reducible refine (rfknown_c' _ _ _ _ _).mono ?_); rintro e w1 ⟨rfl, hb1⟩; obtain ⟨hc1, hf1, hz1⟩ := bcell hb1; (try simp only [World.size_alloc, World.size_setCell, World.size_drew] at hc1 hf1 hz1)) | (go_at_call 18; (with_reducible refine (rdo_c _ _ _ _ _ _).mono ?_); rintro e w1 ⟨rfl, hb1⟩; obtain ⟨hc1, hf1, hz1⟩ := bcell hb1) | (go_at_call 24; (with_reducible refine (rfof_c' _ _).mono ?_); rintro e w1 ⟨rfl, hb1⟩; obtain ⟨hc1, hf1, hz1⟩ := bcell hb1; (try simp only [World.size_alloc, World.size_setCell, World.size_drew] at hc1 hf1 hz1)) | (go_at_call 26; (with_reducible refine (rfany_c _).mono ?_); rintro e w1 ⟨rfl, hb1⟩; obtain ⟨hc1, hf1, hz1⟩ := bcell hb1; (try simp only [World.size_alloc, World.size_setCell, World.size_drew] at hc1 hf1 hz1)))
  refine bodyPost_ret ?_ rfl ⟨rfl, (by repeat' (first | (with_reducible exact Below.refl _ _) | (with_reducible assumption) | (with_reducible refine Below.alloc ?_ ?_ _) | (with_reducible refine Below.setCell ?_ ?_ _) | (with_reducible refine Below.drew ?_) | (with_reducible refine below_dn ?_ _) | (with_reducible refine Below.trans ?_ (Below.mono (by assumption) ?_)) | go_size))⟩
  simp only [results, Try.results43]; simp [*, go_sem, ↓IntWalk.iteOmega]; try (first | rfl | exact ⟨rfl, rfl⟩)

theorem wd_mov_s (nw : Bool) (x y : Fa) (q : BitVec 64) (hx : Fa.known x = none) (hy : Fa.known y = some q) (w : World) : Calls Try.prog 43 #[.int .u8 176, .bool nw, .int .i16 0, .agg #[.int .u64 (N x.t.v), .int .u64 (N x.t.m), .int .u64 (N x.s.lo), .int .u64 (N x.s.hi)], .agg #[.int .u64 (N y.t.v), .int .u64 (N y.t.m), .int .u64 (N y.s.lo), .int .u64 (N y.s.hi)]] w fun e w' => e = .returned (.agg #[.int .u64 (N (Fa.makes 176 (!nw) 0 x y).t.v), .int .u64 (N (Fa.makes 176 (!nw) 0 x y).t.m), .int .u64 (N (Fa.makes 176 (!nw) 0 x y).s.lo), .int .u64 (N (Fa.makes 176 (!nw) 0 x y).s.hi)]) ∧ Below w.heap.size w w' := by
  rw [Fa.mk_mov (.inl hx)]
  go_enter Try.func43, Try.ntmps43
  go_wp2_with (first | (go_at_call 21; (with_reducible refine (rfknown_c' _ _ _ _ _).mono ?_); rintro e w1 ⟨rfl, hb1⟩; obtain ⟨hc1, hf1, hz1⟩ := bcell hb1; (try simp only [World.size_alloc, World.size_setCell, World.size_drew] at hc1 hf1 hz1)) | (go_at_call 18; (with_reducible refine (rdo_c _ _ _ _ _ _).mono ?_); rintro e w1 ⟨rfl, hb1⟩; obtain ⟨hc1, hf1, hz1⟩ := bcell hb1) | (go_at_call 24; (with_reducible refine (rfof_c' _ _).mono ?_); rintro e w1 ⟨rfl, hb1⟩; obtain ⟨hc1, hf1, hz1⟩ := bcell hb1; (try simp only [World.size_alloc, World.size_setCell, World.size_drew] at hc1 hf1 hz1)) | (go_at_call 26; (with_reducible refine (rfany_c _).mono ?_); rintro e w1 ⟨rfl, hb1⟩; obtain ⟨hc1, hf1, hz1⟩ := bcell hb1; (try simp only [World.size_alloc, World.size_setCell, World.size_drew] at hc1 hf1 hz1)))
  refine bodyPost_ret ?_ rfl ⟨rfl, (by repeat' (first | (with_reducible exact Below.refl _ _) | (with_reducible assumption) | (with_reducible refine Below.alloc ?_ ?_ _) | (with_reducible refine Below.setCell ?_ ?_ _) | (with_reducible refine Below.drew ?_) | (with_reducible refine below_dn ?_ _) | (with_reducible refine Below.trans ?_ (Below.mono (by assumption) ?_)) | go_size))⟩
  simp only [results, Try.results43]; simp [*, go_sem, ↓IntWalk.iteOmega]; try (first | rfl | exact ⟨rfl, rfl⟩)

theorem wd_else_s (op : Int) (nw : Bool) (x y : Fa) (q : BitVec 64) (hx : Fa.known x = none) (hy : Fa.known y = some q) (n176 : ¬ op = 176) (n0 : ¬ op = 0) (n16 : ¬ op = 16) (n32 : ¬ op = 32) (n80 : ¬ op = 80) (n64 : ¬ op = 64) (n160 : ¬ op = 160) (n96 : ¬ op = 96) (n112 : ¬ op = 112) (n48 : ¬ op = 48) (n144 : ¬ op = 144) (w : World) : Calls Try.prog 43 #[.int .u8 op, .bool nw, .int .i16 0, .agg #[.int .u64 (N x.t.v), .int .u64 (N x.t.m), .int .u64 (N x.s.lo), .int .u64 (N x.s.hi)], .agg #[.int .u64 (N y.t.v), .int .u64 (N y.t.m), .int .u64 (N y.s.lo), .int .u64 (N y.s.hi)]] w fun e w' => e = .returned (.agg #[.int .u64 (N (Fa.makes op (!nw) 0 x y).t.v), .int .u64 (N (Fa.makes op (!nw) 0 x y).t.m), .int .u64 (N (Fa.makes op (!nw) 0 x y).s.lo), .int .u64 (N (Fa.makes op (!nw) 0 x y).s.hi)]) ∧ Below w.heap.size w w' := by
  rw [Fa.mk_else (.inl hx) n176 n0 n16 n32 n80 n64 n160 n96 n112 n48 n144]
  have b176 : (op == 176) = false := by simpa using n176
  have b0 : (op == 0) = false := by simpa using n0
  have b16 : (op == 16) = false := by simpa using n16
  have b32 : (op == 32) = false := by simpa using n32
  have b80 : (op == 80) = false := by simpa using n80
  have b64 : (op == 64) = false := by simpa using n64
  have b160 : (op == 160) = false := by simpa using n160
  have b96 : (op == 96) = false := by simpa using n96
  have b112 : (op == 112) = false := by simpa using n112
  have b48 : (op == 48) = false := by simpa using n48
  have b144 : (op == 144) = false := by simpa using n144
  have c176 : (op != 176) = true := by simpa using n176
  have c0 : (op != 0) = true := by simpa using n0
  have c16 : (op != 16) = true := by simpa using n16
  have c32 : (op != 32) = true := by simpa using n32
  have c80 : (op != 80) = true := by simpa using n80
  have c64 : (op != 64) = true := by simpa using n64
  have c160 : (op != 160) = true := by simpa using n160
  have c96 : (op != 96) = true := by simpa using n96
  have c112 : (op != 112) = true := by simpa using n112
  have c48 : (op != 48) = true := by simpa using n48
  have c144 : (op != 144) = true := by simpa using n144
  go_enter Try.func43, Try.ntmps43
  go_wp2_with (first | (go_at_call 21; (with_reducible refine (rfknown_c' _ _ _ _ _).mono ?_); rintro e w1 ⟨rfl, hb1⟩; obtain ⟨hc1, hf1, hz1⟩ := bcell hb1; (try simp only [World.size_alloc, World.size_setCell, World.size_drew] at hc1 hf1 hz1)) | (go_at_call 18; (with_reducible refine (rdo_c _ _ _ _ _ _).mono ?_); rintro e w1 ⟨rfl, hb1⟩; obtain ⟨hc1, hf1, hz1⟩ := bcell hb1) | (go_at_call 24; (with_reducible refine (rfof_c' _ _).mono ?_); rintro e w1 ⟨rfl, hb1⟩; obtain ⟨hc1, hf1, hz1⟩ := bcell hb1; (try simp only [World.size_alloc, World.size_setCell, World.size_drew] at hc1 hf1 hz1)) | (go_at_call 26; (with_reducible refine (rfany_c _).mono ?_); rintro e w1 ⟨rfl, hb1⟩; obtain ⟨hc1, hf1, hz1⟩ := bcell hb1; (try simp only [World.size_alloc, World.size_setCell, World.size_drew] at hc1 hf1 hz1)))
  refine bodyPost_ret ?_ rfl ⟨rfl, (by repeat' (first | (with_reducible exact Below.refl _ _) | (with_reducible assumption) | (with_reducible refine Below.alloc ?_ ?_ _) | (with_reducible refine Below.setCell ?_ ?_ _) | (with_reducible refine Below.drew ?_) | (with_reducible refine below_dn ?_ _) | (with_reducible refine Below.trans ?_ (Below.mono (by assumption) ?_)) | go_size))⟩
  simp only [results, Try.results43]; simp [*, go_sem, ↓IntWalk.iteOmega]; try (first | rfl | exact ⟨rfl, rfl⟩)

end Hk
