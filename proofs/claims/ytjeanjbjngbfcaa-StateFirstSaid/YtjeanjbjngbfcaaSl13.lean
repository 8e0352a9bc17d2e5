/- The statements' own function on states: the document's examples stand; old memory is as it was. No condition. -/
import Derived.Test.YtjeanjbjngbfcaaProg
import Derived.Test.YtjeanjbjngbfcaaGp
import Derived.Test.YtjeanjbjngbfcaaSt1
import Derived.Test.YtjeanjbjngbfcaaSt2
import Derived.Test.YtjeanjbjngbfcaaSt11
import Derived.Test.YtjeanjbjngbfcaaSt8
import Derived.Test.YtjeanjbjngbfcaaSteq
import Derived.Test.YtjeanjbjngbfcaaVl5
namespace Hk
open Go Go.RowKit Go.Proofs
set_option linter.unusedSimpArgs false
set_option linter.unusedVariables false
set_option maxRecDepth 100000
attribute [go_sem] Tn.eta Sp.eta Fa.eta Vl.eta
theorem tput_c' (s : St) (o n : Int) (k : Int) (a b c d : BitVec 64) (m off : Int) (w : World) : Calls Try.prog 14 #[.agg (St.cells s), .int .i64 o, .int .i64 n, .agg #[.int .u8 k, .int .u64 (N a), .int .u64 (N b), .int .u64 (N c), .int .u64 (N d), .int .i64 m, .int .i64 off]] w fun e w' => e = .returned (.tuple #[.agg (St.cells (s.put o n (⟨k, ⟨⟨a, b⟩, ⟨c, d⟩⟩, m, off⟩ : Vl))), .int .i64 (s.putE o n (⟨k, ⟨⟨a, b⟩, ⟨c, d⟩⟩, m, off⟩ : Vl))]) ∧ Below w.heap.size w w' := by
  exact tput_c s o n (⟨k, ⟨⟨a, b⟩, ⟨c, d⟩⟩, m, off⟩ : Vl) w

set_option maxHeartbeats 4000000 in
theorem tshown_c  (w : World) : Calls Try.prog 10 #[] w fun e w' => e = .returned (.bool true) ∧ Below w.heap.size w w' := by
  have e1 : St.getE St.first 0 8 = 81 := by decide +kernel
  have e1' : St.get St.first 0 8 = ⟨0, ⟨⟨0#64, 0#64⟩, ⟨0#64, 0#64⟩⟩, 0, 0⟩ := by decide +kernel
  have e2 : St.putE St.first 4 4 (⟨1, ⟨⟨7#64, 0⟩, ⟨7#64, 7#64⟩⟩, 0, 0⟩ : Vl) = 0 := by decide +kernel
  have e3 : St.getE (St.put St.first 4 4 (⟨1, ⟨⟨7#64, 0⟩, ⟨7#64, 7#64⟩⟩, 0, 0⟩ : Vl)) 4 2 = 0 := by decide +kernel
  have e4 : St.get (St.put St.first 4 4 (⟨1, ⟨⟨7#64, 0⟩, ⟨7#64, 7#64⟩⟩, 0, 0⟩ : Vl)) 4 2 = ⟨1, ⟨⟨0#64, 65535#64⟩, ⟨0#64, 65535#64⟩⟩, 0, 0⟩ := by decide +kernel
  generalize hs1 : (St.put St.first 4 4 (⟨1, ⟨⟨7#64, 0⟩, ⟨7#64, 7#64⟩⟩, 0, 0⟩ : Vl)) = s1 at e3 e4
  have hs1' := Lib.hid hs1
  clear hs1
  go_enter Try.func10, Try.ntmps10
  go_wp2_with (first | (go_at_call 18; (with_reducible refine (tfirst_c _).mono ?_); rintro e w1 ⟨rfl, hb1⟩; obtain ⟨hc1, hf1, hz1⟩ := bcell hb1; have hk1 := bblk hb1; (try simp only [World.size_alloc, World.size_setCell, World.size_drew, setRow_size] at hc1 hf1 hz1 hk1)) | (go_at_call 15; (with_reducible refine (tget_c _ _ _ _).mono ?_); rintro e w1 ⟨rfl, hb1⟩; obtain ⟨hc1, hf1, hz1⟩ := bcell hb1; have hk1 := bblk hb1; (try simp only [World.size_alloc, World.size_setCell, World.size_drew, setRow_size] at hc1 hf1 hz1 hk1)) | (go_at_call 27; (with_reducible refine (vrof_c _ _).mono ?_); rintro e w1 ⟨rfl, hb1⟩; obtain ⟨hc1, hf1, hz1⟩ := bcell hb1; have hk1 := bblk hb1; (try simp only [World.size_alloc, World.size_setCell, World.size_drew, setRow_size] at hc1 hf1 hz1 hk1)))
  simp only [Fa.of, Tn.of]
  refine (tput_c' _ _ _ _ _ _ _ _ _ _ _).mono ?_
  rintro e wP ⟨rfl, hbP⟩
  obtain ⟨hcP, hfP, hzP⟩ := bcell hbP
  have hkP := bblk hbP
  (try simp only [World.size_alloc, World.size_setCell, World.size_drew, setRow_size] at hcP hfP hzP hkP)
  simp only [Fa.of, Tn.of, e2]
  rw [hs1'.out]
  go_wp2_with (first | (go_at_call 15; (with_reducible refine (tget_c _ _ _ _).mono ?_); rintro e w1 ⟨rfl, hb1⟩; obtain ⟨hc1, hf1, hz1⟩ := bcell hb1; have hk1 := bblk hb1; (try simp only [World.size_alloc, World.size_setCell, World.size_drew, setRow_size] at hc1 hf1 hz1 hk1)))
  go_ret
  exact ⟨rfl, (by repeat' (first | (with_reducible exact Below.refl _ _) | (with_reducible assumption) | (with_reducible refine Below.alloc ?_ ?_ _) | (with_reducible refine Below.setCell ?_ ?_ _) | (with_reducible refine below_setRow ?_ ?_) | (with_reducible refine Below.drew ?_) | (with_reducible refine below_dn ?_ _) | (with_reducible refine Below.trans ?_ (Below.mono (by assumption) ?_)) | go_size))⟩

end Hk
