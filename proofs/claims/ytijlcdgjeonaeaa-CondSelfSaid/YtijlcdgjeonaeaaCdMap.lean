/- The map of eleven conditions that a statement makes, entry by entry. No condition but those in each statement. -/
import Derived.Test.YtijlcdgjeonaeaaCondLaw
import Derived.Laws.IdiomRangeMap
import Derived.Laws.Sem
namespace Hk
open Go
namespace CdMap
/-- the entries: a condition, whether it holds of a number and itself, its stamp -/
def ent (c : Nat) : Int × Bool → MapEntry := fun p => ⟨.int .u8 p.1, .bool p.2, c⟩
def all : List (Int × Bool) := [(16, true), (48, true), (176, true), (112, true), (208, true), (0, true), (80, false), (32, false), (160, false), (96, false), (192, false)]
/-- the first k of them, as the map holds them -/
def es (k : Nat) : Array MapEntry := (((all.take k).zipIdx).map fun p => ent p.2 p.1).toArray
theorem stamped : MapKept.Stamped (es 11) 11 := by
  refine ⟨?_, ?_, ?_⟩
  all_goals simp [es, all, ent, List.zipIdx]
theorem entry_is {x : MapEntry} (wd : Bool) (a : BitVec 64) (h : x ∈ (es 11).toList) : ∃ (op : Int) (b : Bool) (c : Nat), x = ⟨.int .u8 op, .bool b, c⟩ ∧ Cond.is op wd a a = some b := by
  obtain ⟨h1, h2, h3, h4, h5, h6, h7, h8, h9, h10, h11⟩ := Cond.self_is wd a
  simp only [es, all, ent, List.zipIdx, List.take, List.map, List.mem_cons, List.not_mem_nil, or_false] at h
  rcases h with rfl | rfl | rfl | rfl | rfl | rfl | rfl | rfl | rfl | rfl | rfl
  all_goals exact ⟨_, _, _, rfl, by assumption⟩
theorem setObj_last {P : Program} (w : World) (es : Array MapEntry) (c : Nat) (o' : Obj) : (setObj w.heap.size o').run P (w.alloc (.map es c)) = .ok () (w.alloc o') := by
  rw [MapKept.run_setObj_map o' (heap_alloc_new w _)]
  show Result.ok () ({ w.alloc (.map es c) with heap := (w.heap.push (.map es c)).setIfInBounds w.heap.size o' } : World) = _
  have hp : ∀ (h : Array Obj) (x y : Obj), (h.push x).setIfInBounds h.size y = h.push y := by
    intro h x y
    apply Array.toList_inj.1
    simp
  rw [hp]
  rfl
/-- a key that is not there yet -/
theorem run_ins {P : Program} (w : World) {t kt et : TypeId} (ht : P.underlying t = some (.map kt et)) (hk : P.underlying kt = some (.int .u8)) (es : Array MapEntry) (c : Nat) (key : Int) (v : Value)
    (hno : Instr.findNow (.int .u8) (.int .u8 key) es.toList 0 = some none) :
    (Instr.mapUpdate t (.map (some w.heap.size)) (.int .u8 key) v).run P (w.alloc (.map es c)) = .ok () (w.alloc (.map (es.push ⟨.int .u8 key, v, c⟩) (c + 1))) := by
  have hc : (Instr.checkKey false 10000 kt (.int .u8 key)).run P (w.alloc (.map es c)) = .ok () (w.alloc (.map es c)) := MapKept.run_checkKey hk (by simp [MapKept.IsKey]) false 9999
  simp only [Instr.mapUpdate, Sem.run_bind, run_underlying ht, MapKept.run_getObj_map (heap_alloc_new w _), hc, MapKept.run_findKey hk hno, setObj_last, Result.andThen]
theorem run_make {P : Program} (w : World) (t : TypeId) : (Instr.makeMap t none).run P w = .ok (.map (some w.heap.size)) (w.alloc (.map #[] 0)) := by
  simp [Instr.makeMap, Result.andThen]
end CdMap
end Hk
