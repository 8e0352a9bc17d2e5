/- Package state: Get; old memory is as it was. No condition but those in each statement. -/
import Derived.Test.YtjeanjbjngbfcaaProg
import Derived.Test.YtjeanjbjngbfcaaGp
import Derived.Test.YtjeanjbjngbfcaaSt1
import Derived.Test.YtjeanjbjngbfcaaSt2
import Derived.Test.YtjeanjbjngbfcaaSt10
import Derived.Test.YtjeanjbjngbfcaaGu
namespace Hk
open Go Go.RowKit Go.Proofs
set_option linter.unusedSimpArgs false
set_option linter.unusedVariables false
set_option maxRecDepth 100000
attribute [go_sem] Tn.eta Sp.eta Fa.eta Vl.eta
theorem tget_c (s : St) (o n : Int) (w : World) : Calls Try.prog 15 #[.agg (St.cells s), .int .i64 o, .int .i64 n] w fun e w' => e = .returned (.tuple #[.agg #[.int .u8 (s.get o n).k, .int .u64 (N (s.get o n).f.t.v), .int .u64 (N (s.get o n).f.t.m), .int .u64 (N (s.get o n).f.s.lo), .int .u64 (N (s.get o n).f.s.hi), .int .i64 (s.get o n).i, .int .i64 (s.get o n).off], .int .i64 (s.getE o n)]) ∧ Below w.heap.size w w' := by
  cases h : St.sized n
  · obtain ⟨E1, E2⟩ := St.get_arg (s := s) (o := o) (n := n) (by rw [h]; rfl)
    rw [E1, E2]; exact tget_a s o n h w
  cases hs : s.right
  · obtain ⟨E1, E2⟩ := St.get_arg (s := s) (o := o) (n := n) (by rw [hs]; simp)
    rw [E1, E2]; exact tget_b s o n h hs w
  rcases St.sized_is h with rfl | rfl | rfl | rfl
  · rcases St.fits_3 o 1 with hf | hf | hf
    · obtain ⟨j, hq, hj, h0, h1⟩ := St.fits_j hf (by decide)
      have hfl := St.full_slot h hs hf hq
      cases hb : (((s.s j).p &&& St.bits o 1) == St.bits o 1)
      · rw [hb] at hfl
        obtain ⟨E1, E2⟩ := St.get_blank h hs hf hfl
        rw [E1, E2]; exact tget_bl1 s o j hs h0 h1 hq hj hf hb w
      · rw [hb] at hfl
        obtain ⟨E1, E2⟩ := St.get_ok h hs hf hfl hq
        rw [if_neg (by intro e; exact absurd e.1 (by decide))] at E2
        rw [E1, E2]; exact tget_ok1 s o j hs h0 h1 hq hj hf hb w
    · obtain ⟨E1, E2⟩ := St.get_fit h hs (by rw [hf]; decide)
      rw [E1, E2, hf]; exact tget_no1_80 s o hs hf w
    · obtain ⟨E1, E2⟩ := St.get_fit h hs (by rw [hf]; decide)
      rw [E1, E2, hf]; exact tget_no1_130 s o hs hf w
  · rcases St.fits_3 o 2 with hf | hf | hf
    · obtain ⟨j, hq, hj, h0, h1⟩ := St.fits_j hf (by decide)
      have hfl := St.full_slot h hs hf hq
      cases hb : (((s.s j).p &&& St.bits o 2) == St.bits o 2)
      · rw [hb] at hfl
        obtain ⟨E1, E2⟩ := St.get_blank h hs hf hfl
        rw [E1, E2]; exact tget_bl2 s o j hs h0 h1 hq hj hf hb w
      · rw [hb] at hfl
        obtain ⟨E1, E2⟩ := St.get_ok h hs hf hfl hq
        rw [if_neg (by intro e; exact absurd e.1 (by decide))] at E2
        rw [E1, E2]; exact tget_ok2 s o j hs h0 h1 hq hj hf hb w
    · obtain ⟨E1, E2⟩ := St.get_fit h hs (by rw [hf]; decide)
      rw [E1, E2, hf]; exact tget_no2_80 s o hs hf w
    · obtain ⟨E1, E2⟩ := St.get_fit h hs (by rw [hf]; decide)
      rw [E1, E2, hf]; exact tget_no2_130 s o hs hf w
  · rcases St.fits_3 o 4 with hf | hf | hf
    · obtain ⟨j, hq, hj, h0, h1⟩ := St.fits_j hf (by decide)
      have hfl := St.full_slot h hs hf hq
      cases hb : (((s.s j).p &&& St.bits o 4) == St.bits o 4)
      · rw [hb] at hfl
        obtain ⟨E1, E2⟩ := St.get_blank h hs hf hfl
        rw [E1, E2]; exact tget_bl4 s o j hs h0 h1 hq hj hf hb w
      · rw [hb] at hfl
        obtain ⟨E1, E2⟩ := St.get_ok h hs hf hfl hq
        rw [if_neg (by intro e; exact absurd e.1 (by decide))] at E2
        rw [E1, E2]; exact tget_ok4 s o j hs h0 h1 hq hj hf hb w
    · obtain ⟨E1, E2⟩ := St.get_fit h hs (by rw [hf]; decide)
      rw [E1, E2, hf]; exact tget_no4_80 s o hs hf w
    · obtain ⟨E1, E2⟩ := St.get_fit h hs (by rw [hf]; decide)
      rw [E1, E2, hf]; exact tget_no4_130 s o hs hf w
  · rcases St.fits_3 o 8 with hf | hf | hf
    · obtain ⟨j, hq, hj, h0, h1⟩ := St.fits_j hf (by decide)
      have hfl := St.full_slot h hs hf hq
      cases hb : (((s.s j).p &&& St.bits o 8) == St.bits o 8)
      · rw [hb] at hfl
        obtain ⟨E1, E2⟩ := St.get_blank h hs hf hfl
        rw [E1, E2]; exact tget_bl8 s o j hs h0 h1 hq hj hf hb w
      · rw [hb] at hfl
        obtain ⟨E1, E2⟩ := St.get_ok h hs hf hfl hq
        by_cases hk : (s.s j).v.k = 0
        · rw [if_neg (by simp [hk])] at E2
          rw [E1, E2]; exact tget_ok8 s o j hs h0 h1 hq hj hf hb (by simp [hk]) (by simp [hk]) w
        · rw [if_pos ⟨rfl, hk⟩] at E2
          rw [E1, E2]; exact tget_v8 s o j hs h0 h1 hq hj hf hb (by simp [hk]) (by simp [hk]) w
    · obtain ⟨E1, E2⟩ := St.get_fit h hs (by rw [hf]; decide)
      rw [E1, E2, hf]; exact tget_no8_80 s o hs hf w
    · obtain ⟨E1, E2⟩ := St.get_fit h hs (by rw [hf]; decide)
      rw [E1, E2, hf]; exact tget_no8_130 s o hs hf w

end Hk
