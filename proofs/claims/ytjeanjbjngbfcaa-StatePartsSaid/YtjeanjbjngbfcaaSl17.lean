/- The statement StateParts of the Go text: it returns true, and old memory is as it was. No condition but the bounds of the arguments' kinds, and what stands in memory. -/
import Derived.Test.YtjeanjbjngbfcaaProg
import Derived.Test.YtjeanjbjngbfcaaGp
import Derived.Test.YtjeanjbjngbfcaaStSp
import Derived.Test.YtjeanjbjngbfcaaSt1
import Derived.Test.YtjeanjbjngbfcaaSt2
import Derived.Test.YtjeanjbjngbfcaaSt3
import Derived.Test.YtjeanjbjngbfcaaSt5
import Derived.Test.YtjeanjbjngbfcaaSt8
import Derived.Test.YtjeanjbjngbfcaaSt9
import Derived.Test.YtjeanjbjngbfcaaSl13
import Derived.Test.YtjeanjbjngbfcaaSl14
import Derived.Test.YtjeanjbjngbfcaaSl15
import Derived.Test.YtjeanjbjngbfcaaSl16
import Derived.Test.YtjeanjbjngbfcaaGl
namespace Hk
open Go Go.RowKit Go.Proofs
set_option linter.unusedSimpArgs false
set_option linter.unusedVariables false
set_option maxRecDepth 100000
attribute [go_sem] Tn.eta Sp.eta Fa.eta Vl.eta
set_option maxHeartbeats 8000000 in
theorem stateParts_walk (p : Option Addr) (len cap : Nat) (hlen : len ≤ 9223372036854775807) (L : Nat → Ac) (x : Int) (_ : 0 ≤ x ∧ x ≤ 65535) (y : Int) (_ : 0 ≤ y ∧ y ≤ 65535) (z : Int) (_ : 0 ≤ z ∧ z ≤ 65535) (w : World) (hA : Acts w p len L) : Calls Try.prog 5 #[.slice p len cap, .int .u16 x, .int .u16 y, .int .u16 z] w fun e w' => e = .returned (.bool true) ∧ Below w.heap.size w w' := by
  obtain ⟨o, ho⟩ : ∃ o : Nat, x % 513 = (o : Int) := ⟨(x % 513).toNat, by omega⟩
  obtain ⟨n, hn⟩ : ∃ n : Nat, y % 513 = (n : Int) := ⟨(y % 513).toNat, by omega⟩
  have hz0 : (0 : Int) ≤ z % ((n : Int) + 1) := Int.emod_nonneg _ (by omega)
  have hz1 : z % ((n : Int) + 1) < (n : Int) + 1 := Int.emod_lt_of_pos _ (by omega)
  obtain ⟨k, hk⟩ : ∃ k : Nat, z % ((n : Int) + 1) = (k : Int) := ⟨(z % ((n : Int) + 1)).toNat, by omega⟩
  have ho5 : o ≤ 512 := by omega
  have hn5 : n ≤ 512 := by omega
  have hkn : k ≤ n := by omega
  clear hz0 hz1
  obtain ⟨s0, hs0⟩ : ∃ s0 : St, Hid (s0 = St.first) := ⟨_, Lib.hid rfl⟩
  obtain ⟨s, hs⟩ : ∃ s, Hid (St.madeN L len = s) := ⟨_, Lib.hid rfl⟩
  go_enter Try.func5, Try.ntmps5
  go_wp2_with fail
  refine (tshown_c _).mono ?_
  rintro e wH ⟨rfl, hbwH⟩
  obtain ⟨hcwH, hfwH, hzwH⟩ := bcell hbwH
  have hkwH := bblk hbwH
  (try simp only [World.size_alloc, World.size_setCell, World.size_drew, setRow_size] at hcwH hfwH hzwH hkwH)
  go_wp2_with fail
  refine (tmade_c0 _ _ _ hlen L s0 hs0 _ (hA.keep (by repeat' (first | (with_reducible exact Below.refl _ _) | (with_reducible assumption) | (with_reducible refine Below.alloc ?_ ?_ _) | (with_reducible refine Below.setCell ?_ ?_ _) | (with_reducible refine below_setRow ?_ ?_) | (with_reducible refine Below.drew ?_) | (with_reducible refine below_dn ?_ _) | (with_reducible refine Below.trans ?_ (Below.mono (by assumption) ?_)) | go_size)))).mono ?_
  rintro e wM ⟨rfl, hbwM⟩
  obtain ⟨hcwM, hfwM, hzwM⟩ := bcell hbwM
  have hkwM := bblk hbwM
  (try simp only [World.size_alloc, World.size_setCell, World.size_drew, setRow_size] at hcwM hfwM hzwM hkwM)
  rw [hs.out]
  by_cases hle : (o : Int) + (n : Int) ≤ 512
  · have hfp := St.full_parts (x := s) (o := o) (n := n) (k := k) (by omega) hkn
    cases h1 : s.full (o : Int) (k : Int)
    · have h2 : s.full (o : Int) (n : Int) = false := by rw [hfp, h1]; rfl
      clear hfp
      go_wp2_with (first | (go_at_call 16; (with_reducible refine (tfull_c _ _ _ _).mono ?_); rintro e w1 ⟨rfl, hb1⟩; obtain ⟨hc1, hf1, hz1⟩ := bcell hb1; have hk1 := bblk hb1; (try simp only [World.size_alloc, World.size_setCell, World.size_drew, setRow_size] at hc1 hf1 hz1 hk1)))
      go_ret
      exact ⟨rfl, (by repeat' (first | (with_reducible exact Below.refl _ _) | (with_reducible assumption) | (with_reducible refine Below.alloc ?_ ?_ _) | (with_reducible refine Below.setCell ?_ ?_ _) | (with_reducible refine below_setRow ?_ ?_) | (with_reducible refine Below.drew ?_) | (with_reducible refine below_dn ?_ _) | (with_reducible refine Below.trans ?_ (Below.mono (by assumption) ?_)) | go_size))⟩
    · rw [h1, Bool.true_and] at hfp
      go_wp2_with (first | (go_at_call 16; (with_reducible refine (tfull_c _ _ _ _).mono ?_); rintro e w1 ⟨rfl, hb1⟩; obtain ⟨hc1, hf1, hz1⟩ := bcell hb1; have hk1 := bblk hb1; (try simp only [World.size_alloc, World.size_setCell, World.size_drew, setRow_size] at hc1 hf1 hz1 hk1)))
      go_ret
      exact ⟨rfl, (by repeat' (first | (with_reducible exact Below.refl _ _) | (with_reducible assumption) | (with_reducible refine Below.alloc ?_ ?_ _) | (with_reducible refine Below.setCell ?_ ?_ _) | (with_reducible refine below_setRow ?_ ?_) | (with_reducible refine Below.drew ?_) | (with_reducible refine below_dn ?_ _) | (with_reducible refine Below.trans ?_ (Below.mono (by assumption) ?_)) | go_size))⟩
  · have h2 : s.full (o : Int) (n : Int) = false := St.full_out (by omega)
    go_wp2_with (first | (go_at_call 16; (with_reducible refine (tfull_c _ _ _ _).mono ?_); rintro e w1 ⟨rfl, hb1⟩; obtain ⟨hc1, hf1, hz1⟩ := bcell hb1; have hk1 := bblk hb1; (try simp only [World.size_alloc, World.size_setCell, World.size_drew, setRow_size] at hc1 hf1 hz1 hk1)))
    go_ret
    exact ⟨rfl, (by repeat' (first | (with_reducible exact Below.refl _ _) | (with_reducible assumption) | (with_reducible refine Below.alloc ?_ ?_ _) | (with_reducible refine Below.setCell ?_ ?_ _) | (with_reducible refine below_setRow ?_ ?_) | (with_reducible refine Below.drew ?_) | (with_reducible refine below_dn ?_ _) | (with_reducible refine Below.trans ?_ (Below.mono (by assumption) ?_)) | go_size))⟩

end Hk
