/- Package fact: Settle; old memory is as it was. No condition but those in each statement. -/
import Derived.Test.YtmhkngblpojeaaaProg
import Derived.Test.YtmhkngblpojeaaaGp
import Derived.Test.YtmhkngblpojeaaaGf
import Derived.Test.YtmhkngblpojeaaaGt
import Derived.Test.YtmhkngblpojeaaaGl
import Derived.Test.YtmhkngblpojeaaaGs
import Derived.Deep.RegionHeld3
import Derived.Deep.DeepCutAuto
import Derived.Deep.LoopGhost
namespace Hk
open Go Go.RowKit Go.Proofs
set_option linter.unusedSimpArgs false
set_option linter.unusedVariables false
set_option maxRecDepth 100000
attribute [go_sem] Tn.eta
theorem settle_no1 (f : Fa) (h1 : f.t.right = false) (w : World) : Calls Try.prog 19 #[.agg #[.int .u64 (N f.t.v), .int .u64 (N f.t.m), .int .u64 (N f.s.lo), .int .u64 (N f.s.hi)]] w fun e w' => e = .returned (.tuple #[.agg #[.int .u64 (N ((Fa.settle f).getD Fa.zero).t.v), .int .u64 (N ((Fa.settle f).getD Fa.zero).t.m), .int .u64 (N ((Fa.settle f).getD Fa.zero).s.lo), .int .u64 (N ((Fa.settle f).getD Fa.zero).s.hi)], .bool (Fa.settle f).isSome]) ∧ Below w.heap.size w w' := by
  rw [Fa.settle_no1 h1]
  go_enter Try.func19, Try.ntmps19
  go_wp2_with (first | (go_at_call 49; (with_reducible refine (right_c' _ _ _).mono ?_); rintro e w1 ⟨rfl, hb1⟩; obtain ⟨hc1, hf1, hz1⟩ := bcell hb1; (try simp only [World.size_alloc, World.size_setCell, World.size_drew] at hc1 hf1 hz1)) | (go_at_call 50; (with_reducible refine (sright_c' _ _ _).mono ?_); rintro e w1 ⟨rfl, hb1⟩; obtain ⟨hc1, hf1, hz1⟩ := bcell hb1; (try simp only [World.size_alloc, World.size_setCell, World.size_drew] at hc1 hf1 hz1)))
  refine bodyPost_ret ?_ rfl ⟨rfl, (by repeat' (first | (with_reducible exact Below.refl _ _) | (with_reducible assumption) | (with_reducible refine Below.alloc ?_ ?_ _) | (with_reducible refine Below.setCell ?_ ?_ _) | (with_reducible refine Below.drew ?_) | (with_reducible refine below_dn ?_ _) | (with_reducible refine Below.trans ?_ (Below.mono (by assumption) ?_)) | go_size))⟩
  simp only [results, Try.results19]; simp [*, go_sem, ↓IntWalk.iteOmega, Fa.zero]; try (first | rfl | exact ⟨rfl, rfl⟩)

theorem settle_no2 (f : Fa) (h1 : f.t.right = true) (h2 : f.s.right = false) (w : World) : Calls Try.prog 19 #[.agg #[.int .u64 (N f.t.v), .int .u64 (N f.t.m), .int .u64 (N f.s.lo), .int .u64 (N f.s.hi)]] w fun e w' => e = .returned (.tuple #[.agg #[.int .u64 (N ((Fa.settle f).getD Fa.zero).t.v), .int .u64 (N ((Fa.settle f).getD Fa.zero).t.m), .int .u64 (N ((Fa.settle f).getD Fa.zero).s.lo), .int .u64 (N ((Fa.settle f).getD Fa.zero).s.hi)], .bool (Fa.settle f).isSome]) ∧ Below w.heap.size w w' := by
  rw [Fa.settle_no2 h1 h2]
  go_enter Try.func19, Try.ntmps19
  go_wp2_with (first | (go_at_call 49; (with_reducible refine (right_c' _ _ _).mono ?_); rintro e w1 ⟨rfl, hb1⟩; obtain ⟨hc1, hf1, hz1⟩ := bcell hb1; (try simp only [World.size_alloc, World.size_setCell, World.size_drew] at hc1 hf1 hz1)) | (go_at_call 50; (with_reducible refine (sright_c' _ _ _).mono ?_); rintro e w1 ⟨rfl, hb1⟩; obtain ⟨hc1, hf1, hz1⟩ := bcell hb1; (try simp only [World.size_alloc, World.size_setCell, World.size_drew] at hc1 hf1 hz1)))
  refine bodyPost_ret ?_ rfl ⟨rfl, (by repeat' (first | (with_reducible exact Below.refl _ _) | (with_reducible assumption) | (with_reducible refine Below.alloc ?_ ?_ _) | (with_reducible refine Below.setCell ?_ ?_ _) | (with_reducible refine Below.drew ?_) | (with_reducible refine below_dn ?_ _) | (with_reducible refine Below.trans ?_ (Below.mono (by assumption) ?_)) | go_size))⟩
  simp only [results, Try.results19]; simp [*, go_sem, ↓IntWalk.iteOmega, Fa.zero]; try (first | rfl | exact ⟨rfl, rfl⟩)

def SetC (g z : Fa) (s : Sp) (w wM : World) (w' : World) : Prop := w'.cell? ⟨w.heap.size, 0, none⟩ = some (.int .u64 (N g.t.v)) ∧ w'.cell? ⟨w.heap.size, 1, none⟩ = some (.int .u64 (N g.t.m)) ∧ w'.cell? ⟨w.heap.size, 2, none⟩ = some (.int .u64 (N g.s.lo)) ∧ w'.cell? ⟨w.heap.size, 3, none⟩ = some (.int .u64 (N g.s.hi)) ∧ w'.cell? ⟨w.heap.size + 1, 0, none⟩ = some (.int .u64 (N z.t.v)) ∧ w'.cell? ⟨w.heap.size + 1, 1, none⟩ = some (.int .u64 (N z.t.m)) ∧ w'.cell? ⟨w.heap.size + 1, 2, none⟩ = some (.int .u64 (N z.s.lo)) ∧ w'.cell? ⟨w.heap.size + 1, 3, none⟩ = some (.int .u64 (N z.s.hi)) ∧ w'.cell? ⟨wM.heap.size, 0, none⟩ = some (.int .u64 (N s.lo)) ∧ w'.cell? ⟨wM.heap.size, 1, none⟩ = some (.int .u64 (N s.hi)) ∧ (∀ i, w'.frozen? ⟨w.heap.size, i, none⟩ = false) ∧ (∀ i, w'.frozen? ⟨w.heap.size + 1, i, none⟩ = false) ∧ Below w.heap.size w w'
theorem SetC_keep {g z : Fa} {s : Sp} {w wM : World} (w' w1 : World) (h : SetC g z s w wM w') (hb : Below w'.heap.size w' w1) : SetC g z s w wM w1 := by
  obtain ⟨k0, k1, k2, k3, k4, k5, k6, k7, k8, k9, k10, k11, k12⟩ := h
  exact ⟨cell_keep hb k0, cell_keep hb k1, cell_keep hb k2, cell_keep hb k3, cell_keep hb k4, cell_keep hb k5, cell_keep hb k6, cell_keep hb k7, cell_keep hb k8, cell_keep hb k9, frozen_keep hb k0 k10, frozen_keep hb k4 k11, below_next k12 hb⟩

/-- what stands in memory ahead of a round -/
def SetAt (g : Fa) (w wr : World) : Prop := wr.cell? ⟨w.heap.size, 0, none⟩ = some (.int .u64 (N g.t.v)) ∧ wr.cell? ⟨w.heap.size, 1, none⟩ = some (.int .u64 (N g.t.m)) ∧ wr.cell? ⟨w.heap.size, 2, none⟩ = some (.int .u64 (N g.s.lo)) ∧ wr.cell? ⟨w.heap.size, 3, none⟩ = some (.int .u64 (N g.s.hi)) ∧ wr.cell? ⟨w.heap.size + 1, 0, none⟩ = some (.int .u64 (N Fa.zero.t.v)) ∧ wr.cell? ⟨w.heap.size + 1, 1, none⟩ = some (.int .u64 (N Fa.zero.t.m)) ∧ wr.cell? ⟨w.heap.size + 1, 2, none⟩ = some (.int .u64 (N Fa.zero.s.lo)) ∧ wr.cell? ⟨w.heap.size + 1, 3, none⟩ = some (.int .u64 (N Fa.zero.s.hi)) ∧ (∀ o, wr.frozen? ⟨w.heap.size, o, none⟩ = false) ∧ (∀ o, wr.frozen? ⟨w.heap.size + 1, o, none⟩ = false) ∧ w.heap.size + 1 < wr.heap.size ∧ Below w.heap.size w wr

set_option maxHeartbeats 20000000 in
theorem settle_yes (f : Fa) (h1 : f.t.right = true) (h2 : f.s.right = true) (w : World) : Calls Try.prog 19 #[.agg #[.int .u64 (N f.t.v), .int .u64 (N f.t.m), .int .u64 (N f.s.lo), .int .u64 (N f.s.hi)]] w fun e w' => e = .returned (.tuple #[.agg #[.int .u64 (N ((Fa.settle f).getD Fa.zero).t.v), .int .u64 (N ((Fa.settle f).getD Fa.zero).t.m), .int .u64 (N ((Fa.settle f).getD Fa.zero).s.lo), .int .u64 (N ((Fa.settle f).getD Fa.zero).s.hi)], .bool (Fa.settle f).isSome]) ∧ Below w.heap.size w w' := by
  have L0 := Lib.hid (Fa.left_start h1 h2)
  generalize hR : Fa.settle f = R at L0
  have HR0 := Lib.hid hR
  clear hR
  go_enter Try.func19, Try.ntmps19
  go_wp2_with (first | (go_at_call 49; (with_reducible refine (right_c' _ _ _).mono ?_); rintro e w1 ⟨rfl, hb1⟩; obtain ⟨hc1, hf1, hz1⟩ := bcell hb1; (try simp only [World.size_alloc, World.size_setCell, World.size_drew] at hc1 hf1 hz1)) | (go_at_call 50; (with_reducible refine (sright_c' _ _ _).mono ?_); rintro e w1 ⟨rfl, hb1⟩; obtain ⟨hc1, hf1, hz1⟩ := bcell hb1; (try simp only [World.size_alloc, World.size_setCell, World.size_drew] at hc1 hf1 hz1)))
  go_loopg [] 65 (fun gk wr => ∃ g : Fa, Hid (Fa.Left R gk g) ∧ SetAt g w wr)
  case atStart =>
    refine ⟨f, L0, ?_⟩
    unfold SetAt
    refine ⟨?_, ?_, ?_, ?_, ?_, ?_, ?_, ?_, ?_, ?_, (by (try simp only [World.size_alloc, World.size_setCell, World.size_drew]); omega), (by repeat' (first | (with_reducible exact Below.refl _ _) | (with_reducible assumption) | (with_reducible refine Below.alloc ?_ ?_ _) | (with_reducible refine Below.setCell ?_ ?_ _) | (with_reducible refine Below.drew ?_) | (with_reducible refine below_dn ?_ _) | (with_reducible refine Below.trans ?_ (Below.mono (by assumption) ?_)) | go_size))⟩
    all_goals first | (intro o; simp [*, go_sem, ↓IntWalk.iteOmega]; done) | (simp [*, go_sem, ↓IntWalk.iteOmega, Fa.zero]; try rfl)
  case round =>
    obtain ⟨g, HL, c0, c1, c2, c3, c4, c5, c6, c7, f0, f1, hz, hb⟩ := hrel
    clear h1 h2 L0 HR0
    obtain ⟨m, rfl⟩ := Fa.left_pos HL.out
    generalize hs : Sp.meet g.s ⟨g.t.v, g.t.v ||| g.t.m⟩ = s
    cases h1 : Sp.meetOk g.s ⟨g.t.v, g.t.v ||| g.t.m⟩
    · have HR := Lib.hid (Fa.left_none HL.out (Fa.round_n1 h1))
      clear HL
      go_wp2_with fail
      refine (smeet_c' _ _ _ _ _).mono ?_
      rintro e wM ⟨rfl, hbwM⟩
      obtain ⟨hcwM, hfwM, hzwM⟩ := bcell hbwM
      (try simp only [World.size_alloc, World.size_setCell, World.size_drew] at hcwM hfwM hzwM)
      go_wp2
      refine bodyPost_ret ?_ rfl ⟨rfl, (by repeat' (first | (with_reducible exact Below.refl _ _) | (with_reducible assumption) | (with_reducible refine Below.alloc ?_ ?_ _) | (with_reducible refine Below.setCell ?_ ?_ _) | (with_reducible refine Below.drew ?_) | (with_reducible refine below_dn ?_ _) | (with_reducible refine Below.trans ?_ (Below.mono (by assumption) ?_)) | go_size))⟩
      simp only [results, Try.results19]; rw [HR.out]; simp [*, go_sem, ↓IntWalk.iteOmega, Fa.zero]; try (first | rfl | exact ⟨rfl, rfl⟩)
    · generalize ht : Tn.meet g.t (ranged s) = t
      cases h2 : Tn.meetOk g.t (ranged s)
      · have HR := Lib.hid (Fa.left_none HL.out (Fa.round_n2 hs h1 h2))
        clear HL
        go_wp2_with fail
        refine (smeet_c' _ _ _ _ _).mono ?_
        rintro e wM ⟨rfl, hbwM⟩
        obtain ⟨hcwM, hfwM, hzwM⟩ := bcell hbwM
        (try simp only [World.size_alloc, World.size_setCell, World.size_drew] at hcwM hfwM hzwM)
        go_upto_region 6 with fail
        go_cut [5, 6] (fun s5 s6 wx => ∃ b : Nat, s5 = .bool false ∧ s6 = .pointer (some ⟨b, 0, none⟩) ∧ SetC g Fa.zero s w wM wx ∧ wx.cell? ⟨b, 0, none⟩ = some (.int .u64 (N t.v)) ∧ wx.cell? ⟨b, 1, none⟩ = some (.int .u64 (N t.m)))
        case first =>
          have HC : SetC g Fa.zero s w wM (wM.alloc (.cells #[.int .u64 (N s.lo), .int .u64 (N s.hi)] 27)) := by
            refine ⟨?_, ?_, ?_, ?_, ?_, ?_, ?_, ?_, ?_, ?_, ?_, ?_, (by repeat' (first | (with_reducible exact Below.refl _ _) | (with_reducible assumption) | (with_reducible refine Below.alloc ?_ ?_ _) | (with_reducible refine Below.setCell ?_ ?_ _) | (with_reducible refine Below.drew ?_) | (with_reducible refine below_dn ?_ _) | (with_reducible refine Below.trans ?_ (Below.mono (by assumption) ?_)) | go_size))⟩
            all_goals first | (intro i; simp [*, go_sem, ↓IntWalk.iteOmega]; done) | (simp [*, go_sem, ↓IntWalk.iteOmega]; done)
          go_region_held3 (fun w' => w'.cell? ⟨w.heap.size, 0, none⟩ = some (.int .u64 (N g.t.v)) ∧ w'.cell? ⟨w.heap.size, 1, none⟩ = some (.int .u64 (N g.t.m)) ∧ w'.cell? ⟨w.heap.size, 2, none⟩ = some (.int .u64 (N g.s.lo)) ∧ w'.cell? ⟨w.heap.size, 3, none⟩ = some (.int .u64 (N g.s.hi)) ∧ w'.cell? ⟨w.heap.size + 1, 0, none⟩ = some (.int .u64 (N Fa.zero.t.v)) ∧ w'.cell? ⟨w.heap.size + 1, 1, none⟩ = some (.int .u64 (N Fa.zero.t.m)) ∧ w'.cell? ⟨w.heap.size + 1, 2, none⟩ = some (.int .u64 (N Fa.zero.s.lo)) ∧ w'.cell? ⟨w.heap.size + 1, 3, none⟩ = some (.int .u64 (N Fa.zero.s.hi)) ∧ w'.cell? ⟨wM.heap.size, 0, none⟩ = some (.int .u64 (N s.lo)) ∧ w'.cell? ⟨wM.heap.size, 1, none⟩ = some (.int .u64 (N s.hi)) ∧ (∀ i, w'.frozen? ⟨w.heap.size, i, none⟩ = false) ∧ (∀ i, w'.frozen? ⟨w.heap.size + 1, i, none⟩ = false) ∧ Below w.heap.size w w') (((refine SetC_keep  _ _ HC ?_); (repeat' (first | (with_reducible exact Below.refl _ _) | (with_reducible assumption) | (with_reducible refine Below.alloc ?_ ?_ _) | (with_reducible refine Below.setCell ?_ ?_ _) | (with_reducible refine Below.drew ?_) | (with_reducible refine below_dn ?_ _) | (with_reducible refine Below.trans ?_ (Below.mono (by assumption) ?_)) | go_size)))) ((first | (go_at_call 53; (with_reducible refine (ranged_c' _ _ _).mono ?_); rintro e w1 ⟨rfl, hb1⟩; obtain ⟨hc1, hf1, hz1⟩ := bcell hb1; (try simp only [World.size_alloc, World.size_setCell, World.size_drew] at hc1 hf1 hz1)) | (go_at_call 52; (with_reducible refine (meet_c' _ _ _ _ _).mono ?_); rintro e w1 ⟨rfl, hb1⟩; obtain ⟨hc1, hf1, hz1⟩ := bcell hb1; (try simp only [World.size_alloc, World.size_setCell, World.size_drew] at hc1 hf1 hz1))))
          all_goals (go_wp2_with fail; go_meet; refine ⟨_, rfl, rfl, SetC_keep _ _ HC (by repeat' (first | (with_reducible exact Below.refl _ _) | (with_reducible assumption) | (with_reducible refine Below.alloc ?_ ?_ _) | (with_reducible refine Below.setCell ?_ ?_ _) | (with_reducible refine Below.drew ?_) | (with_reducible refine below_dn ?_ _) | (with_reducible refine Below.trans ?_ (Below.mono (by assumption) ?_)) | go_size)), ?_, ?_⟩ <;> (simp [*, go_sem, ↓IntWalk.iteOmega]; done))
        case rest =>
          obtain ⟨b, rfl, rfl, hC, d0, d1⟩ := hcut
          clear hbwM hcwM hfwM hzwM c0 c1 c2 c3 c4 c5 c6 c7 f0 f1 hz hb
          obtain ⟨k0, k1, k2, k3, k4, k5, k6, k7, k8, k9, k10, k11, k12⟩ := hC
          have zb := cell_lt d0
          have z0 := cell_lt k0
          have z4 := cell_lt k4
          have z8 := cell_lt k8
          go_wp2
          refine bodyPost_ret ?_ rfl ⟨rfl, (by repeat' (first | (with_reducible exact Below.refl _ _) | (with_reducible assumption) | (with_reducible refine Below.alloc ?_ ?_ _) | (with_reducible refine Below.setCell ?_ ?_ _) | (with_reducible refine Below.drew ?_) | (with_reducible refine below_dn ?_ _) | (with_reducible refine Below.trans ?_ (Below.mono (by assumption) ?_)) | go_size))⟩
          simp only [results, Try.results19]; rw [HR.out]; simp [*, go_sem, ↓IntWalk.iteOmega, Fa.zero]; try (first | rfl | exact ⟨rfl, rfl⟩)
      · have hr := Lib.hid (Fa.round_s hs ht h1 h2)
        cases h3 : (t.v == g.t.v)
        · have HL2 := Lib.hid (Fa.left_go HL.out hr.out (Fa.tn_ne (.inl h3)))
          clear HL hr
          go_wp2_with fail
          refine (smeet_c' _ _ _ _ _).mono ?_
          rintro e wM ⟨rfl, hbwM⟩
          obtain ⟨hcwM, hfwM, hzwM⟩ := bcell hbwM
          (try simp only [World.size_alloc, World.size_setCell, World.size_drew] at hcwM hfwM hzwM)
          go_upto_region 6 with fail
          go_cut [5, 6] (fun s5 s6 wx => ∃ b : Nat, s5 = .bool true ∧ s6 = .pointer (some ⟨b, 0, none⟩) ∧ SetC g Fa.zero s w wM wx ∧ wx.cell? ⟨b, 0, none⟩ = some (.int .u64 (N t.v)) ∧ wx.cell? ⟨b, 1, none⟩ = some (.int .u64 (N t.m)))
          case first =>
            have HC : SetC g Fa.zero s w wM (wM.alloc (.cells #[.int .u64 (N s.lo), .int .u64 (N s.hi)] 27)) := by
              refine ⟨?_, ?_, ?_, ?_, ?_, ?_, ?_, ?_, ?_, ?_, ?_, ?_, (by repeat' (first | (with_reducible exact Below.refl _ _) | (with_reducible assumption) | (with_reducible refine Below.alloc ?_ ?_ _) | (with_reducible refine Below.setCell ?_ ?_ _) | (with_reducible refine Below.drew ?_) | (with_reducible refine below_dn ?_ _) | (with_reducible refine Below.trans ?_ (Below.mono (by assumption) ?_)) | go_size))⟩
              all_goals first | (intro i; simp [*, go_sem, ↓IntWalk.iteOmega]; done) | (simp [*, go_sem, ↓IntWalk.iteOmega]; done)
            go_region_held3 (fun w' => w'.cell? ⟨w.heap.size, 0, none⟩ = some (.int .u64 (N g.t.v)) ∧ w'.cell? ⟨w.heap.size, 1, none⟩ = some (.int .u64 (N g.t.m)) ∧ w'.cell? ⟨w.heap.size, 2, none⟩ = some (.int .u64 (N g.s.lo)) ∧ w'.cell? ⟨w.heap.size, 3, none⟩ = some (.int .u64 (N g.s.hi)) ∧ w'.cell? ⟨w.heap.size + 1, 0, none⟩ = some (.int .u64 (N Fa.zero.t.v)) ∧ w'.cell? ⟨w.heap.size + 1, 1, none⟩ = some (.int .u64 (N Fa.zero.t.m)) ∧ w'.cell? ⟨w.heap.size + 1, 2, none⟩ = some (.int .u64 (N Fa.zero.s.lo)) ∧ w'.cell? ⟨w.heap.size + 1, 3, none⟩ = some (.int .u64 (N Fa.zero.s.hi)) ∧ w'.cell? ⟨wM.heap.size, 0, none⟩ = some (.int .u64 (N s.lo)) ∧ w'.cell? ⟨wM.heap.size, 1, none⟩ = some (.int .u64 (N s.hi)) ∧ (∀ i, w'.frozen? ⟨w.heap.size, i, none⟩ = false) ∧ (∀ i, w'.frozen? ⟨w.heap.size + 1, i, none⟩ = false) ∧ Below w.heap.size w w') (((refine SetC_keep  _ _ HC ?_); (repeat' (first | (with_reducible exact Below.refl _ _) | (with_reducible assumption) | (with_reducible refine Below.alloc ?_ ?_ _) | (with_reducible refine Below.setCell ?_ ?_ _) | (with_reducible refine Below.drew ?_) | (with_reducible refine below_dn ?_ _) | (with_reducible refine Below.trans ?_ (Below.mono (by assumption) ?_)) | go_size)))) ((first | (go_at_call 53; (with_reducible refine (ranged_c' _ _ _).mono ?_); rintro e w1 ⟨rfl, hb1⟩; obtain ⟨hc1, hf1, hz1⟩ := bcell hb1; (try simp only [World.size_alloc, World.size_setCell, World.size_drew] at hc1 hf1 hz1)) | (go_at_call 52; (with_reducible refine (meet_c' _ _ _ _ _).mono ?_); rintro e w1 ⟨rfl, hb1⟩; obtain ⟨hc1, hf1, hz1⟩ := bcell hb1; (try simp only [World.size_alloc, World.size_setCell, World.size_drew] at hc1 hf1 hz1))))
            all_goals (go_wp2_with fail; go_meet; refine ⟨_, rfl, rfl, SetC_keep _ _ HC (by repeat' (first | (with_reducible exact Below.refl _ _) | (with_reducible assumption) | (with_reducible refine Below.alloc ?_ ?_ _) | (with_reducible refine Below.setCell ?_ ?_ _) | (with_reducible refine Below.drew ?_) | (with_reducible refine below_dn ?_ _) | (with_reducible refine Below.trans ?_ (Below.mono (by assumption) ?_)) | go_size)), ?_, ?_⟩ <;> (simp [*, go_sem, ↓IntWalk.iteOmega]; done))
          case rest =>
            obtain ⟨b, rfl, rfl, hC, d0, d1⟩ := hcut
            clear hbwM hcwM hfwM hzwM c0 c1 c2 c3 c4 c5 c6 c7 f0 f1 hz hb
            obtain ⟨k0, k1, k2, k3, k4, k5, k6, k7, k8, k9, k10, k11, k12⟩ := hC
            have zb := cell_lt d0
            have z0 := cell_lt k0
            have z4 := cell_lt k4
            have z8 := cell_lt k8
            go_wp2
            go_roundg m
            case measure => omega
            case rel =>
              refine ⟨⟨t, s⟩, HL2, ?_⟩
              unfold SetAt
              refine ⟨?_, ?_, ?_, ?_, ?_, ?_, ?_, ?_, ?_, ?_, (by (try simp only [World.size_alloc, World.size_setCell, World.size_drew]); omega), (by repeat' (first | (with_reducible exact Below.refl _ _) | (with_reducible assumption) | (with_reducible refine Below.alloc ?_ ?_ _) | (with_reducible refine Below.setCell ?_ ?_ _) | (with_reducible refine Below.drew ?_) | (with_reducible refine below_dn ?_ _) | (with_reducible refine Below.trans ?_ (Below.mono (by assumption) ?_)) | go_size))⟩
              all_goals first | (intro o; simp [*, go_sem, ↓IntWalk.iteOmega]; done) | (simp [*, go_sem, ↓IntWalk.iteOmega]; done)
        · cases h4 : (t.m == g.t.m)
          · have HL2 := Lib.hid (Fa.left_go HL.out hr.out (Fa.tn_ne (.inr h4)))
            clear HL hr
            go_wp2_with fail
            refine (smeet_c' _ _ _ _ _).mono ?_
            rintro e wM ⟨rfl, hbwM⟩
            obtain ⟨hcwM, hfwM, hzwM⟩ := bcell hbwM
            (try simp only [World.size_alloc, World.size_setCell, World.size_drew] at hcwM hfwM hzwM)
            go_upto_region 6 with fail
            go_cut [5, 6] (fun s5 s6 wx => ∃ b : Nat, s5 = .bool true ∧ s6 = .pointer (some ⟨b, 0, none⟩) ∧ SetC g Fa.zero s w wM wx ∧ wx.cell? ⟨b, 0, none⟩ = some (.int .u64 (N t.v)) ∧ wx.cell? ⟨b, 1, none⟩ = some (.int .u64 (N t.m)))
            case first =>
              have HC : SetC g Fa.zero s w wM (wM.alloc (.cells #[.int .u64 (N s.lo), .int .u64 (N s.hi)] 27)) := by
                refine ⟨?_, ?_, ?_, ?_, ?_, ?_, ?_, ?_, ?_, ?_, ?_, ?_, (by repeat' (first | (with_reducible exact Below.refl _ _) | (with_reducible assumption) | (with_reducible refine Below.alloc ?_ ?_ _) | (with_reducible refine Below.setCell ?_ ?_ _) | (with_reducible refine Below.drew ?_) | (with_reducible refine below_dn ?_ _) | (with_reducible refine Below.trans ?_ (Below.mono (by assumption) ?_)) | go_size))⟩
                all_goals first | (intro i; simp [*, go_sem, ↓IntWalk.iteOmega]; done) | (simp [*, go_sem, ↓IntWalk.iteOmega]; done)
              go_region_held3 (fun w' => w'.cell? ⟨w.heap.size, 0, none⟩ = some (.int .u64 (N g.t.v)) ∧ w'.cell? ⟨w.heap.size, 1, none⟩ = some (.int .u64 (N g.t.m)) ∧ w'.cell? ⟨w.heap.size, 2, none⟩ = some (.int .u64 (N g.s.lo)) ∧ w'.cell? ⟨w.heap.size, 3, none⟩ = some (.int .u64 (N g.s.hi)) ∧ w'.cell? ⟨w.heap.size + 1, 0, none⟩ = some (.int .u64 (N Fa.zero.t.v)) ∧ w'.cell? ⟨w.heap.size + 1, 1, none⟩ = some (.int .u64 (N Fa.zero.t.m)) ∧ w'.cell? ⟨w.heap.size + 1, 2, none⟩ = some (.int .u64 (N Fa.zero.s.lo)) ∧ w'.cell? ⟨w.heap.size + 1, 3, none⟩ = some (.int .u64 (N Fa.zero.s.hi)) ∧ w'.cell? ⟨wM.heap.size, 0, none⟩ = some (.int .u64 (N s.lo)) ∧ w'.cell? ⟨wM.heap.size, 1, none⟩ = some (.int .u64 (N s.hi)) ∧ (∀ i, w'.frozen? ⟨w.heap.size, i, none⟩ = false) ∧ (∀ i, w'.frozen? ⟨w.heap.size + 1, i, none⟩ = false) ∧ Below w.heap.size w w') (((refine SetC_keep  _ _ HC ?_); (repeat' (first | (with_reducible exact Below.refl _ _) | (with_reducible assumption) | (with_reducible refine Below.alloc ?_ ?_ _) | (with_reducible refine Below.setCell ?_ ?_ _) | (with_reducible refine Below.drew ?_) | (with_reducible refine below_dn ?_ _) | (with_reducible refine Below.trans ?_ (Below.mono (by assumption) ?_)) | go_size)))) ((first | (go_at_call 53; (with_reducible refine (ranged_c' _ _ _).mono ?_); rintro e w1 ⟨rfl, hb1⟩; obtain ⟨hc1, hf1, hz1⟩ := bcell hb1; (try simp only [World.size_alloc, World.size_setCell, World.size_drew] at hc1 hf1 hz1)) | (go_at_call 52; (with_reducible refine (meet_c' _ _ _ _ _).mono ?_); rintro e w1 ⟨rfl, hb1⟩; obtain ⟨hc1, hf1, hz1⟩ := bcell hb1; (try simp only [World.size_alloc, World.size_setCell, World.size_drew] at hc1 hf1 hz1))))
              all_goals (go_wp2_with fail; go_meet; refine ⟨_, rfl, rfl, SetC_keep _ _ HC (by repeat' (first | (with_reducible exact Below.refl _ _) | (with_reducible assumption) | (with_reducible refine Below.alloc ?_ ?_ _) | (with_reducible refine Below.setCell ?_ ?_ _) | (with_reducible refine Below.drew ?_) | (with_reducible refine below_dn ?_ _) | (with_reducible refine Below.trans ?_ (Below.mono (by assumption) ?_)) | go_size)), ?_, ?_⟩ <;> (simp [*, go_sem, ↓IntWalk.iteOmega]; done))
            case rest =>
              obtain ⟨b, rfl, rfl, hC, d0, d1⟩ := hcut
              clear hbwM hcwM hfwM hzwM c0 c1 c2 c3 c4 c5 c6 c7 f0 f1 hz hb
              obtain ⟨k0, k1, k2, k3, k4, k5, k6, k7, k8, k9, k10, k11, k12⟩ := hC
              have zb := cell_lt d0
              have z0 := cell_lt k0
              have z4 := cell_lt k4
              have z8 := cell_lt k8
              go_wp2
              go_roundg m
              case measure => omega
              case rel =>
                refine ⟨⟨t, s⟩, HL2, ?_⟩
                unfold SetAt
                refine ⟨?_, ?_, ?_, ?_, ?_, ?_, ?_, ?_, ?_, ?_, (by (try simp only [World.size_alloc, World.size_setCell, World.size_drew]); omega), (by repeat' (first | (with_reducible exact Below.refl _ _) | (with_reducible assumption) | (with_reducible refine Below.alloc ?_ ?_ _) | (with_reducible refine Below.setCell ?_ ?_ _) | (with_reducible refine Below.drew ?_) | (with_reducible refine below_dn ?_ _) | (with_reducible refine Below.trans ?_ (Below.mono (by assumption) ?_)) | go_size))⟩
                all_goals first | (intro o; simp [*, go_sem, ↓IntWalk.iteOmega]; done) | (simp [*, go_sem, ↓IntWalk.iteOmega]; done)
          · have HR := Lib.hid (Fa.left_same HL.out hr.out (Fa.tn_eq h3 h4))
            clear HL hr
            go_wp2_with fail
            refine (smeet_c' _ _ _ _ _).mono ?_
            rintro e wM ⟨rfl, hbwM⟩
            obtain ⟨hcwM, hfwM, hzwM⟩ := bcell hbwM
            (try simp only [World.size_alloc, World.size_setCell, World.size_drew] at hcwM hfwM hzwM)
            go_upto_region 6 with fail
            go_cut [5, 6] (fun s5 s6 wx => ∃ b : Nat, s5 = .bool true ∧ s6 = .pointer (some ⟨b, 0, none⟩) ∧ SetC g Fa.zero s w wM wx ∧ wx.cell? ⟨b, 0, none⟩ = some (.int .u64 (N t.v)) ∧ wx.cell? ⟨b, 1, none⟩ = some (.int .u64 (N t.m)))
            case first =>
              have HC : SetC g Fa.zero s w wM (wM.alloc (.cells #[.int .u64 (N s.lo), .int .u64 (N s.hi)] 27)) := by
                refine ⟨?_, ?_, ?_, ?_, ?_, ?_, ?_, ?_, ?_, ?_, ?_, ?_, (by repeat' (first | (with_reducible exact Below.refl _ _) | (with_reducible assumption) | (with_reducible refine Below.alloc ?_ ?_ _) | (with_reducible refine Below.setCell ?_ ?_ _) | (with_reducible refine Below.drew ?_) | (with_reducible refine below_dn ?_ _) | (with_reducible refine Below.trans ?_ (Below.mono (by assumption) ?_)) | go_size))⟩
                all_goals first | (intro i; simp [*, go_sem, ↓IntWalk.iteOmega]; done) | (simp [*, go_sem, ↓IntWalk.iteOmega]; done)
              go_region_held3 (fun w' => w'.cell? ⟨w.heap.size, 0, none⟩ = some (.int .u64 (N g.t.v)) ∧ w'.cell? ⟨w.heap.size, 1, none⟩ = some (.int .u64 (N g.t.m)) ∧ w'.cell? ⟨w.heap.size, 2, none⟩ = some (.int .u64 (N g.s.lo)) ∧ w'.cell? ⟨w.heap.size, 3, none⟩ = some (.int .u64 (N g.s.hi)) ∧ w'.cell? ⟨w.heap.size + 1, 0, none⟩ = some (.int .u64 (N Fa.zero.t.v)) ∧ w'.cell? ⟨w.heap.size + 1, 1, none⟩ = some (.int .u64 (N Fa.zero.t.m)) ∧ w'.cell? ⟨w.heap.size + 1, 2, none⟩ = some (.int .u64 (N Fa.zero.s.lo)) ∧ w'.cell? ⟨w.heap.size + 1, 3, none⟩ = some (.int .u64 (N Fa.zero.s.hi)) ∧ w'.cell? ⟨wM.heap.size, 0, none⟩ = some (.int .u64 (N s.lo)) ∧ w'.cell? ⟨wM.heap.size, 1, none⟩ = some (.int .u64 (N s.hi)) ∧ (∀ i, w'.frozen? ⟨w.heap.size, i, none⟩ = false) ∧ (∀ i, w'.frozen? ⟨w.heap.size + 1, i, none⟩ = false) ∧ Below w.heap.size w w') (((refine SetC_keep  _ _ HC ?_); (repeat' (first | (with_reducible exact Below.refl _ _) | (with_reducible assumption) | (with_reducible refine Below.alloc ?_ ?_ _) | (with_reducible refine Below.setCell ?_ ?_ _) | (with_reducible refine Below.drew ?_) | (with_reducible refine below_dn ?_ _) | (with_reducible refine Below.trans ?_ (Below.mono (by assumption) ?_)) | go_size)))) ((first | (go_at_call 53; (with_reducible refine (ranged_c' _ _ _).mono ?_); rintro e w1 ⟨rfl, hb1⟩; obtain ⟨hc1, hf1, hz1⟩ := bcell hb1; (try simp only [World.size_alloc, World.size_setCell, World.size_drew] at hc1 hf1 hz1)) | (go_at_call 52; (with_reducible refine (meet_c' _ _ _ _ _).mono ?_); rintro e w1 ⟨rfl, hb1⟩; obtain ⟨hc1, hf1, hz1⟩ := bcell hb1; (try simp only [World.size_alloc, World.size_setCell, World.size_drew] at hc1 hf1 hz1))))
              all_goals (go_wp2_with fail; go_meet; refine ⟨_, rfl, rfl, SetC_keep _ _ HC (by repeat' (first | (with_reducible exact Below.refl _ _) | (with_reducible assumption) | (with_reducible refine Below.alloc ?_ ?_ _) | (with_reducible refine Below.setCell ?_ ?_ _) | (with_reducible refine Below.drew ?_) | (with_reducible refine below_dn ?_ _) | (with_reducible refine Below.trans ?_ (Below.mono (by assumption) ?_)) | go_size)), ?_, ?_⟩ <;> (simp [*, go_sem, ↓IntWalk.iteOmega]; done))
            case rest =>
              obtain ⟨b, rfl, rfl, hC, d0, d1⟩ := hcut
              clear hbwM hcwM hfwM hzwM c0 c1 c2 c3 c4 c5 c6 c7 f0 f1 hz hb
              obtain ⟨k0, k1, k2, k3, k4, k5, k6, k7, k8, k9, k10, k11, k12⟩ := hC
              have zb := cell_lt d0
              have z0 := cell_lt k0
              have z4 := cell_lt k4
              have z8 := cell_lt k8
              go_wp2
              refine bodyPost_ret ?_ rfl ⟨rfl, (by repeat' (first | (with_reducible exact Below.refl _ _) | (with_reducible assumption) | (with_reducible refine Below.alloc ?_ ?_ _) | (with_reducible refine Below.setCell ?_ ?_ _) | (with_reducible refine Below.drew ?_) | (with_reducible refine below_dn ?_ _) | (with_reducible refine Below.trans ?_ (Below.mono (by assumption) ?_)) | go_size))⟩
              simp only [results, Try.results19]; rw [HR.out]; simp [*, go_sem, ↓IntWalk.iteOmega, Fa.zero]; try (first | rfl | exact ⟨rfl, rfl⟩)

end Hk
