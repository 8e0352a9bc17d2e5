/- The statement CondSelf of the Go text: it returns true, and old memory is as it was. No condition. -/
import Derived.Test.YtijlcdgjeonaeaaProg
import Derived.Test.YtijlcdgjeonaeaaWd
import Derived.Test.YtijlcdgjeonaeaaCdMap
import Derived.Test.YtijlcdgjeonaeaaCd3
import Derived.LoopN
import Derived.LoopTactic
import Derived.Laws.IdiomRangeMap
namespace Hk
open Go Go.RowKit Go.Proofs
set_option linter.unusedSimpArgs false
set_option linter.unusedVariables false
set_option maxRecDepth 100000
attribute [go_sem] Cond.val_some Cond.err_some Cond.val_none Cond.err_none
theorem cd_under : Try.prog.underlying 32 = some (.map 5 4) := by kernel_rfl
theorem cd_make (w : World) : (Instr.makeMap 32 none).run Try.prog w = .ok (.map (some w.heap.size)) (w.alloc (.map (CdMap.es 0) 0)) := CdMap.run_make w _
theorem cd_ins0 (w : World) : (Instr.mapUpdate 32 (.map (some w.heap.size)) (.int .u8 16) (.bool true)).run Try.prog (w.alloc (.map (CdMap.es 0) 0)) = .ok () (w.alloc (.map (CdMap.es 1) 1)) :=
  CdMap.run_ins w cd_under (by kernel_rfl) _ _ _ _ rfl
theorem cd_ins1 (w : World) : (Instr.mapUpdate 32 (.map (some w.heap.size)) (.int .u8 48) (.bool true)).run Try.prog (w.alloc (.map (CdMap.es 1) 1)) = .ok () (w.alloc (.map (CdMap.es 2) 2)) :=
  CdMap.run_ins w cd_under (by kernel_rfl) _ _ _ _ rfl
theorem cd_ins2 (w : World) : (Instr.mapUpdate 32 (.map (some w.heap.size)) (.int .u8 176) (.bool true)).run Try.prog (w.alloc (.map (CdMap.es 2) 2)) = .ok () (w.alloc (.map (CdMap.es 3) 3)) :=
  CdMap.run_ins w cd_under (by kernel_rfl) _ _ _ _ rfl
theorem cd_ins3 (w : World) : (Instr.mapUpdate 32 (.map (some w.heap.size)) (.int .u8 112) (.bool true)).run Try.prog (w.alloc (.map (CdMap.es 3) 3)) = .ok () (w.alloc (.map (CdMap.es 4) 4)) :=
  CdMap.run_ins w cd_under (by kernel_rfl) _ _ _ _ rfl
theorem cd_ins4 (w : World) : (Instr.mapUpdate 32 (.map (some w.heap.size)) (.int .u8 208) (.bool true)).run Try.prog (w.alloc (.map (CdMap.es 4) 4)) = .ok () (w.alloc (.map (CdMap.es 5) 5)) :=
  CdMap.run_ins w cd_under (by kernel_rfl) _ _ _ _ rfl
theorem cd_ins5 (w : World) : (Instr.mapUpdate 32 (.map (some w.heap.size)) (.int .u8 0) (.bool true)).run Try.prog (w.alloc (.map (CdMap.es 5) 5)) = .ok () (w.alloc (.map (CdMap.es 6) 6)) :=
  CdMap.run_ins w cd_under (by kernel_rfl) _ _ _ _ rfl
theorem cd_ins6 (w : World) : (Instr.mapUpdate 32 (.map (some w.heap.size)) (.int .u8 80) (.bool false)).run Try.prog (w.alloc (.map (CdMap.es 6) 6)) = .ok () (w.alloc (.map (CdMap.es 7) 7)) :=
  CdMap.run_ins w cd_under (by kernel_rfl) _ _ _ _ rfl
theorem cd_ins7 (w : World) : (Instr.mapUpdate 32 (.map (some w.heap.size)) (.int .u8 32) (.bool false)).run Try.prog (w.alloc (.map (CdMap.es 7) 7)) = .ok () (w.alloc (.map (CdMap.es 8) 8)) :=
  CdMap.run_ins w cd_under (by kernel_rfl) _ _ _ _ rfl
theorem cd_ins8 (w : World) : (Instr.mapUpdate 32 (.map (some w.heap.size)) (.int .u8 160) (.bool false)).run Try.prog (w.alloc (.map (CdMap.es 8) 8)) = .ok () (w.alloc (.map (CdMap.es 9) 9)) :=
  CdMap.run_ins w cd_under (by kernel_rfl) _ _ _ _ rfl
theorem cd_ins9 (w : World) : (Instr.mapUpdate 32 (.map (some w.heap.size)) (.int .u8 96) (.bool false)).run Try.prog (w.alloc (.map (CdMap.es 9) 9)) = .ok () (w.alloc (.map (CdMap.es 10) 10)) :=
  CdMap.run_ins w cd_under (by kernel_rfl) _ _ _ _ rfl
theorem cd_ins10 (w : World) : (Instr.mapUpdate 32 (.map (some w.heap.size)) (.int .u8 192) (.bool false)).run Try.prog (w.alloc (.map (CdMap.es 10) 10)) = .ok () (w.alloc (.map (CdMap.es 11) 11)) :=
  CdMap.run_ins w cd_under (by kernel_rfl) _ _ _ _ rfl
/-- true, and old memory is as it was (the tape may have been asked) -/
def SelfPost (w : World) (e : Ending) (w' : World) : Prop := e = .returned (.bool true) ∧ ∃ W1 : World, Below w.heap.size w W1 ∧ w'.Alike W1
theorem selfPost_mk {w w1 : World} {o o' : Obj} (hal : w1.Alike (w.alloc o)) : SelfPost w (.returned (.bool true)) (w1.alloc o') :=
  ⟨rfl, (w.alloc o).alloc o', ((Below.refl _ _).alloc (Nat.le_refl _) _).alloc (by simp) _, by show w1.heap.push o' = (w.alloc o).heap.push o'; rw [hal.1], hal.2.1, hal.2.2⟩
theorem alloc_size (w : World) (o : Obj) : (w.alloc o).heap.size = w.heap.size + 1 := by simp

set_option maxHeartbeats 1000000 in
theorem condSelf_t (wd : Bool) (a : BitVec 64) (hz : (a == 0#64) = true) (w : World) : Calls Try.prog 6 #[.bool (wd), .int .u64 (N a)] w (SelfPost w) := by
  have mk := cd_make w
  have i0 := cd_ins0 w
  have i1 := cd_ins1 w
  have i2 := cd_ins2 w
  have i3 := cd_ins3 w
  have i4 := cd_ins4 w
  have i5 := cd_ins5 w
  have i6 := cd_ins6 w
  have i7 := cd_ins7 w
  have i8 := cd_ins8 w
  have i9 := cd_ins9 w
  have i10 := cd_ins10 w
  have hrg := run_range_map (P := Try.prog) (w.alloc (.map (CdMap.es 11) 11)) 32 _ _ w.heap.size (CdMap.es 11) 11 cd_under (heap_alloc_new w _)
  have e64 : Cond.is 64 true a a = some (!true) := by rw [Cond.is_64]; simp only [if_true, BitVec.and_self, hz]
  go_enter Try.func6, Try.ntmps6
  go_wp2_with (first | (go_at_call 11; (with_reducible refine (cshown_c _).mono ?_); rintro e w1 ⟨rfl, rfl⟩) | (go_at_call 9; (with_reducible refine (cis_c _ _ _ _ _).mono ?_); rintro e w1 ⟨rfl, rfl⟩))
  clear mk hrg i0 i1 i2 i3 i4 i5 i6 i7 i8 i9 i10
  go_loopw [] (fun w' => ∃ (w1 : World) (seen : Array Nat), w1.Alike (w.alloc (.map (CdMap.es 11) 11)) ∧ w' = w1.alloc (.mapIter (some w.heap.size) 11 seen 11)) (fun w' => (leftOf (CdMap.es 11) (w'.iterSeen (w.heap.size + 1))).size)
  case atStart => exact ⟨_, #[], ⟨rfl, rfl, rfl⟩, rfl⟩
  case round =>
    obtain ⟨w1, seen, hal, rfl⟩ := hrel
    have hsz : w1.heap.size = w.heap.size + 1 := by rw [hal.1]; exact alloc_size w _
    have hb1 : w1.heap[w.heap.size]? = some (.map (CdMap.es 11) 11) := by rw [hal.1]; exact heap_alloc_new w _
    have law := run_next_map (P := Try.prog) w1 0 w.heap.size 11 11 seen (CdMap.es 11) 11 hb1 CdMap.stamped.1 (Nat.le_refl _)
    rw [hsz] at law
    rcases law with ⟨h0, hrun⟩ | ⟨e, he, w2, hal2, hrun⟩
    · have hnx : ∀ ty, (Instr.next (.pointer (some ⟨w.heap.size + 1, 0, none⟩)) false ty).run Try.prog (w1.alloc (.mapIter (some w.heap.size) 11 seen 11)) = _ := fun _ => hrun
      have hal' := Lib.hid hal
      clear hb1 hsz hal hrun h0
      go_wp2_with (first | (go_at_call 11; (with_reducible refine (cshown_c _).mono ?_); rintro e w1 ⟨rfl, rfl⟩) | (go_at_call 9; (with_reducible refine (cis_c _ _ _ _ _).mono ?_); rintro e w1 ⟨rfl, rfl⟩))
      go_ret
      exact selfPost_mk hal'.out
    · have hm := mem_left he
      obtain ⟨op, b, c, rfl, hop⟩ := CdMap.entry_is wd a hm.1
      have hsz2 : w2.heap.size = w.heap.size + 1 := by rw [hal2.1]; exact hsz
      have hb2 : w2.heap[w.heap.size]? = some (.map (CdMap.es 11) 11) := by rw [hal2.1]; exact hb1
      have hen := run_entry_map (P := Try.prog) w2 w.heap.size 11 seen (CdMap.es 11) 11 _ hb2 hm.1 CdMap.stamped.2.1
      rw [hsz2] at hen
      have hnx : ∀ ty, (Instr.next (.pointer (some ⟨w.heap.size + 1, 0, none⟩)) false ty).run Try.prog (w1.alloc (.mapIter (some w.heap.size) 11 seen 11)) = _ := fun _ => hrun
      have hal3 := Lib.hid (show w2.Alike (w.alloc (.map (CdMap.es 11) 11)) from ⟨hal2.1.trans hal.1, hal2.2.1.trans hal.2.1, hal2.2.2.trans hal.2.2⟩)
      have hls : (leftOf (CdMap.es 11) (seen.push c)).size < (leftOf (CdMap.es 11) seen).size := left_shrinks (CdMap.es 11) seen ⟨.int .u8 op, .bool b, c⟩ he
      have hlsh := Lib.hid hls
      have hszs := Lib.hid (And.intro hsz hsz2)
      clear hsz hsz2 hb1 hb2 hal hal2 hrun hls he hm
      cases b
      all_goals
        go_wp2_with (first | (go_at_call 11; (with_reducible refine (cshown_c _).mono ?_); rintro e w1 ⟨rfl, rfl⟩) | (go_at_call 9; (with_reducible refine (cis_c _ _ _ _ _).mono ?_); rintro e w1 ⟨rfl, rfl⟩))
        go_roundw
        case rel => exact ⟨w2, seen.push c, hal3.out, rfl⟩
        case measure =>
          obtain ⟨hsz, hsz2⟩ := hszs.out
          rw [← hsz2, World.iterSeen_alloc, hsz2, ← hsz, World.iterSeen_alloc]
          exact hlsh.out

set_option maxHeartbeats 1000000 in
theorem condSelf_f (wd : Bool) (a : BitVec 64) (hz : (a == 0#64) = false) (w : World) : Calls Try.prog 6 #[.bool (wd), .int .u64 (N a)] w (SelfPost w) := by
  have mk := cd_make w
  have i0 := cd_ins0 w
  have i1 := cd_ins1 w
  have i2 := cd_ins2 w
  have i3 := cd_ins3 w
  have i4 := cd_ins4 w
  have i5 := cd_ins5 w
  have i6 := cd_ins6 w
  have i7 := cd_ins7 w
  have i8 := cd_ins8 w
  have i9 := cd_ins9 w
  have i10 := cd_ins10 w
  have hrg := run_range_map (P := Try.prog) (w.alloc (.map (CdMap.es 11) 11)) 32 _ _ w.heap.size (CdMap.es 11) 11 cd_under (heap_alloc_new w _)
  have e64 : Cond.is 64 true a a = some (!false) := by rw [Cond.is_64]; simp only [if_true, BitVec.and_self, hz]
  go_enter Try.func6, Try.ntmps6
  go_wp2_with (first | (go_at_call 11; (with_reducible refine (cshown_c _).mono ?_); rintro e w1 ⟨rfl, rfl⟩) | (go_at_call 9; (with_reducible refine (cis_c _ _ _ _ _).mono ?_); rintro e w1 ⟨rfl, rfl⟩))
  clear mk hrg i0 i1 i2 i3 i4 i5 i6 i7 i8 i9 i10
  go_loopw [] (fun w' => ∃ (w1 : World) (seen : Array Nat), w1.Alike (w.alloc (.map (CdMap.es 11) 11)) ∧ w' = w1.alloc (.mapIter (some w.heap.size) 11 seen 11)) (fun w' => (leftOf (CdMap.es 11) (w'.iterSeen (w.heap.size + 1))).size)
  case atStart => exact ⟨_, #[], ⟨rfl, rfl, rfl⟩, rfl⟩
  case round =>
    obtain ⟨w1, seen, hal, rfl⟩ := hrel
    have hsz : w1.heap.size = w.heap.size + 1 := by rw [hal.1]; exact alloc_size w _
    have hb1 : w1.heap[w.heap.size]? = some (.map (CdMap.es 11) 11) := by rw [hal.1]; exact heap_alloc_new w _
    have law := run_next_map (P := Try.prog) w1 0 w.heap.size 11 11 seen (CdMap.es 11) 11 hb1 CdMap.stamped.1 (Nat.le_refl _)
    rw [hsz] at law
    rcases law with ⟨h0, hrun⟩ | ⟨e, he, w2, hal2, hrun⟩
    · have hnx : ∀ ty, (Instr.next (.pointer (some ⟨w.heap.size + 1, 0, none⟩)) false ty).run Try.prog (w1.alloc (.mapIter (some w.heap.size) 11 seen 11)) = _ := fun _ => hrun
      have hal' := Lib.hid hal
      clear hb1 hsz hal hrun h0
      go_wp2_with (first | (go_at_call 11; (with_reducible refine (cshown_c _).mono ?_); rintro e w1 ⟨rfl, rfl⟩) | (go_at_call 9; (with_reducible refine (cis_c _ _ _ _ _).mono ?_); rintro e w1 ⟨rfl, rfl⟩))
      go_ret
      exact selfPost_mk hal'.out
    · have hm := mem_left he
      obtain ⟨op, b, c, rfl, hop⟩ := CdMap.entry_is wd a hm.1
      have hsz2 : w2.heap.size = w.heap.size + 1 := by rw [hal2.1]; exact hsz
      have hb2 : w2.heap[w.heap.size]? = some (.map (CdMap.es 11) 11) := by rw [hal2.1]; exact hb1
      have hen := run_entry_map (P := Try.prog) w2 w.heap.size 11 seen (CdMap.es 11) 11 _ hb2 hm.1 CdMap.stamped.2.1
      rw [hsz2] at hen
      have hnx : ∀ ty, (Instr.next (.pointer (some ⟨w.heap.size + 1, 0, none⟩)) false ty).run Try.prog (w1.alloc (.mapIter (some w.heap.size) 11 seen 11)) = _ := fun _ => hrun
      have hal3 := Lib.hid (show w2.Alike (w.alloc (.map (CdMap.es 11) 11)) from ⟨hal2.1.trans hal.1, hal2.2.1.trans hal.2.1, hal2.2.2.trans hal.2.2⟩)
      have hls : (leftOf (CdMap.es 11) (seen.push c)).size < (leftOf (CdMap.es 11) seen).size := left_shrinks (CdMap.es 11) seen ⟨.int .u8 op, .bool b, c⟩ he
      have hlsh := Lib.hid hls
      have hszs := Lib.hid (And.intro hsz hsz2)
      clear hsz hsz2 hb1 hb2 hal hal2 hrun hls he hm
      cases b
      all_goals
        go_wp2_with (first | (go_at_call 11; (with_reducible refine (cshown_c _).mono ?_); rintro e w1 ⟨rfl, rfl⟩) | (go_at_call 9; (with_reducible refine (cis_c _ _ _ _ _).mono ?_); rintro e w1 ⟨rfl, rfl⟩))
        go_roundw
        case rel => exact ⟨w2, seen.push c, hal3.out, rfl⟩
        case measure =>
          obtain ⟨hsz, hsz2⟩ := hszs.out
          rw [← hsz2, World.iterSeen_alloc, hsz2, ← hsz, World.iterSeen_alloc]
          exact hlsh.out

theorem condSelf_walk (wd : Bool) (a : BitVec 64) (w : World) : Calls Try.prog 6 #[.bool (wd), .int .u64 (N a)] w (SelfPost w) := by
  cases hz : (a == 0#64)
  · exact condSelf_f wd a hz w
  · exact condSelf_t wd a hz w

end Hk
