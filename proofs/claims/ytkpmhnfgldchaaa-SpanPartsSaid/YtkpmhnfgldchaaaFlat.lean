/- An argument of numbers and bools alone, in structs and arrays, opened: its cells, and how it reads in any memory. No condition but those in each statement. -/
import Derived.Test.YtkpmhnfgldchaaaWd
import Derived.Test.YtkpmhnfgldchaaaPost
import Derived.ChangeSame
import Derived.OpenShut
namespace Hk
open Go Go.ChangeShapes Go.WideShapes
section
variable {H : Type} {enc : TypeId × Value → H} {P : Program}
/-- a type of numbers and bools alone -/
def flat (P : Program) : Nat → TypeId → Bool
  | 0, _ => false
  | n + 1, t =>
    match P.underlying t with
    | some .bool => true
    | some (.int _) => true
    | some (.struct fs) => fs.toList.all fun f => flat P n f.type
    | some (.array _ e) => flat P n e
    | _ => false
/-- what stands in the cell i of such a type: a number of a kind; none: a bool -/
def leafAt (P : Program) : Nat → TypeId → Nat → Option (Option IntKind)
  | 0, _, _ => none
  | n + 1, t, i =>
    match P.underlying t with
    | some .bool => if i = 0 then some none else none
    | some (.int k) => if i = 0 then some (some k) else none
    | some (.struct fs) => (fs.toList.find? fun f => decide (f.offset ≤ i) && decide (i < f.offset + P.cellsOf f.type)).bind fun f => leafAt P n f.type (i - f.offset)
    | some (.array m e) => if i < m * P.cellsOf e then leafAt P n e (i % P.cellsOf e) else none
    | _ => none
def fits : Option IntKind → Value → Prop
  | some k, v => ∃ x, v = .int k x ∧ (Lit.int k x).wf = true
  | none, v => ∃ b, v = .bool b
theorem mapM_of_get {α β : Type} {g : α → Option β} : ∀ (L : List α) (xs : List β), xs.length = L.length → (∀ (i : Nat) (f : α), L[i]? = some f → g f = xs[i]?) → L.mapM g = some xs
  | [], xs, hl, _ => by
    obtain rfl : xs = [] := List.eq_nil_of_length_eq_zero hl
    rfl
  | a :: L, xs, hl, h => by
    cases xs with
    | nil => simp at hl
    | cons x xs =>
      have h0 := h 0 a rfl
      have ih := mapM_of_get L xs (by simpa using hl) fun i f hi => by simpa using h (i + 1) f (by simpa using hi)
      rw [List.mapM_cons, h0, ih]
      rfl
/-- such a value reads alike in any memory -/
theorem trod_flat : ∀ (n : Nat) (t : TypeId), flat P n t = true → ∀ (fuel : Nat) (w : World) (base : Nat) (sp : Nat → Bool) (held : Bool) (cs : List Value) (x : DataW H × List MemPlace), DataW.trod enc P w base sp held fuel t cs = some x →
    x.2 = [] ∧ ∀ (w' : World) (base' : Nat) (sp' : Nat → Bool) (held' : Bool), DataW.trod enc P w' base' sp' held' fuel t cs = some x := by
  intro n
  induction n with
  | zero => intro t h; simp [flat] at h
  | succ n ih =>
    intro t hf fuel w base sp held cs x hx
    unfold flat at hf
    cases fuel with
    | zero => simp [DataW.trod] at hx
    | succ m =>
    split at hf
    · rename_i hu
      obtain ⟨b, rfl, rfl⟩ := DataW.trod_bool hu hx
      exact ⟨rfl, fun w' base' sp' held' => by simp [DataW.trod, hu]⟩
    · rename_i k hu
      obtain ⟨b, rfl, rfl, wf⟩ := DataW.trod_int hu hx
      exact ⟨rfl, fun w' base' sp' held' => by simp [DataW.trod, hu, wf]⟩
    · rename_i fs hu
      obtain ⟨xs, m', hm, rfl, hl, hlen, hat⟩ := DataW.trod_struct hu hx
      obtain rfl : m = m' := by omega
      rw [List.all_eq_true] at hf
      have key : ∀ (i : Nat) (f : Field), fs[i]? = some f → ∃ y, xs[i]? = some y ∧ y.2 = [] ∧ ∀ (w' : World) (base' : Nat) (sp' : Nat → Bool) (held' : Bool), DataW.trod enc P w' base' sp' held' m f.type ((cs.drop f.offset).take (P.cellsOf f.type)) = some y := by
        intro i f hi
        have hil : i < fs.size := (Array.getElem?_eq_some_iff.1 hi).1
        have hy : xs[i]? = some (xs[i]'(by omega)) := List.getElem?_eq_getElem (by omega)
        have h1 := hat i f hi
        rw [hy] at h1
        have hmem : f ∈ fs.toList := by
          obtain ⟨h2, h3⟩ := Array.getElem?_eq_some_iff.1 hi
          rw [← h3]; simp
        obtain ⟨a, b⟩ := ih f.type (hf f hmem) m w base sp held _ _ h1
        exact ⟨_, hy, a, b⟩
      refine ⟨?_, fun w' base' sp' held' => ?_⟩
      · show xs.flatMap (·.2) = []
        rw [List.flatMap_eq_nil_iff]
        intro y hy
        obtain ⟨i, hi, rfl⟩ := List.getElem_of_mem hy
        obtain ⟨y', h1, h2, _⟩ := key i (fs[i]'(by omega)) (by rw [Array.getElem?_eq_getElem (by omega)])
        rw [List.getElem?_eq_getElem hi] at h1
        cases h1; exact h2
      · rw [DataW.trod_step]
        unfold DataW.trodStep
        simp only [hu]
        rw [if_pos hl, mapM_of_get fs.toList xs (by simpa using hlen) fun i f hi => by
          obtain ⟨y, h1, _, h3⟩ := key i f (by simpa using hi)
          rw [h1]; exact h3 w' base' sp' held']
        rfl
    · rename_i k e hu
      obtain ⟨xs, m', hm, rfl, hl, hlen, hat⟩ := DataW.trod_array hu hx
      obtain rfl : m = m' := by omega
      have key : ∀ (i : Nat), i < k → ∃ y, xs[i]? = some y ∧ y.2 = [] ∧ ∀ (w' : World) (base' : Nat) (sp' : Nat → Bool) (held' : Bool), DataW.trod enc P w' base' sp' held' m e ((cs.drop (i * P.cellsOf e)).take (P.cellsOf e)) = some y := by
        intro i hi
        have hy : xs[i]? = some (xs[i]'(by omega)) := List.getElem?_eq_getElem (by omega)
        have h1 := hat i hi
        rw [hy] at h1
        obtain ⟨a, b⟩ := ih e hf m w base sp held _ _ h1
        exact ⟨_, hy, a, b⟩
      refine ⟨?_, fun w' base' sp' held' => ?_⟩
      · show xs.flatMap (·.2) = []
        rw [List.flatMap_eq_nil_iff]
        intro y hy
        obtain ⟨i, hi, rfl⟩ := List.getElem_of_mem hy
        obtain ⟨y', h1, h2, _⟩ := key i (by omega)
        rw [List.getElem?_eq_getElem hi] at h1
        cases h1; exact h2
      · rw [DataW.trod_step]
        unfold DataW.trodStep
        simp only [hu]
        rw [if_pos hl, mapM_of_get (List.range k) xs (by simpa using hlen) fun i f hi => by
          obtain ⟨hi1, hi2⟩ := List.getElem?_eq_some_iff.1 hi
          simp at hi1 hi2
          subst hi2
          obtain ⟨y, h1, _, h3⟩ := key i hi1
          rw [h1]; exact h3 w' base' sp' held']
        rfl
    · exact absurd hf (by decide)
theorem sub_get {α : Type} {cs : List α} {o c i : Nat} {v : α} (h : ((cs.drop o).take c)[i]? = some v) : cs[o + i]? = some v := by
  rw [List.getElem?_take] at h
  split at h
  · rw [List.getElem?_drop] at h; exact h
  · cases h
/-- what stands in its cells -/
theorem trod_leaf : ∀ (n : Nat) (t : TypeId) (i : Nat) (lf : Option IntKind), leafAt P n t i = some lf → ∀ (fuel : Nat) (w : World) (base : Nat) (sp : Nat → Bool) (held : Bool) (cs : List Value) (x : DataW H × List MemPlace), DataW.trod enc P w base sp held fuel t cs = some x →
    ∃ v, cs[i]? = some v ∧ fits lf v := by
  intro n
  induction n with
  | zero => intro t i lf h; simp [leafAt] at h
  | succ n ih =>
    intro t i lf hf fuel w base sp held cs x hx
    unfold leafAt at hf
    split at hf
    · rename_i hu
      obtain ⟨b, rfl, rfl⟩ := DataW.trod_bool hu hx
      split at hf
      · rename_i h0; subst h0; cases hf; exact ⟨_, rfl, b, rfl⟩
      · cases hf
    · rename_i k hu
      obtain ⟨b, rfl, rfl, wf⟩ := DataW.trod_int hu hx
      split at hf
      · rename_i h0; subst h0; cases hf; exact ⟨_, rfl, b, rfl, wf⟩
      · cases hf
    · rename_i fs hu
      obtain ⟨xs, m', hm, rfl, hl, hlen, hat⟩ := DataW.trod_struct hu hx
      simp only [Option.bind_eq_some_iff] at hf
      obtain ⟨f, hfind, hleaf⟩ := hf
      have hmem := List.mem_of_find?_eq_some hfind
      have hp := List.find?_some hfind
      simp only [Bool.and_eq_true, decide_eq_true_iff] at hp
      obtain ⟨j, hj, hjf⟩ := List.getElem_of_mem hmem
      have hjs : j < fs.size := by simpa using hj
      have hat' := hat j f (by rw [Array.getElem?_eq_getElem hjs]; simpa using hjf)
      rw [List.getElem?_eq_getElem (show j < xs.length by omega)] at hat'
      obtain ⟨v, h1, h2⟩ := ih f.type _ lf hleaf _ _ _ _ _ _ _ hat'
      refine ⟨v, ?_, h2⟩
      have := sub_get h1
      rwa [show f.offset + (i - f.offset) = i by omega] at this
    · rename_i k e hu
      obtain ⟨xs, m', hm, rfl, hl, hlen, hat⟩ := DataW.trod_array hu hx
      split at hf
      · rename_i hi
        have hc : 0 < P.cellsOf e := by
          apply Nat.pos_of_ne_zero
          intro h0; rw [h0] at hi; omega
        have hq : i / P.cellsOf e < k := by rw [Nat.div_lt_iff_lt_mul hc]; exact hi
        have hat' := hat (i / P.cellsOf e) hq
        rw [List.getElem?_eq_getElem (show i / P.cellsOf e < xs.length by omega)] at hat'
        obtain ⟨v, h1, h2⟩ := ih e _ lf hf _ _ _ _ _ _ _ hat'
        refine ⟨v, ?_, h2⟩
        have := sub_get h1
        rwa [show i / P.cellsOf e * P.cellsOf e + i % P.cellsOf e = i by rw [Nat.mul_comm]; exact Nat.div_add_mod i _] at this
      · cases hf
    · cases hf
/-- An argument that is a struct or an array of numbers and bools alone. -/
theorem open_flat {n : Nat} {t : TypeId} (hagg : (match P.underlying t with | some (.struct _) | some (.array _ _) => true | _ => false) = true) (hf : flat P n t = true) {w : World} {base b0 : Nat} {sp : Nat → Bool} {held : Bool} {r : Reach} {v : Value} {d : DataW H} {ps : List MemPlace}
    (hv : Value.okWide P w r b0 t v) (h : DataW.Trod enc P w base sp held t v d ps) :
    ∃ cs : Array Value, v = .agg cs ∧ cs.size = P.cellsOf t ∧ ps = [] ∧ (∀ (i : Nat) (lf : Option IntKind), leafAt P n t i = some lf → ∃ c, cs[i]? = some c ∧ fits lf c) ∧
      ∀ (w' : World) (base' : Nat) (sp' : Nat → Bool) (held' : Bool), DataW.Trod enc P w' base' sp' held' t (.agg cs) d [] := by
  have hcs : ∃ cs : Array Value, v = .agg cs ∧ cs.size = P.cellsOf t := by
    unfold Value.okWide at hv
    split at hv
    · obtain ⟨cs, a, b, _⟩ := hv; exact ⟨cs, a, b⟩
    · obtain ⟨cs, a, b, _⟩ := hv; exact ⟨cs, a, b⟩
    · rename_i h1 h2
      split at hagg
      · rename_i hu; exact absurd hu (h1 _)
      · rename_i hu; exact absurd hu (h2 _ _)
      · cases hagg
  obtain ⟨cs, rfl, hsz⟩ := hcs
  obtain ⟨fuel, hx⟩ := h
  obtain ⟨h1, h2⟩ := trod_flat n t hf fuel w base sp held _ _ hx
  simp only at h1
  subst h1
  refine ⟨cs, rfl, hsz, rfl, fun i lf hl => ?_, fun w' base' sp' held' => ⟨fuel, h2 w' base' sp' held'⟩⟩
  obtain ⟨c, h3, h4⟩ := trod_leaf n t i lf hl fuel w base sp held _ _ hx
  exact ⟨c, by simpa [Value.cells] using h3, h4⟩
end
theorem fits_u64 {c : Value} (h : fits (some .u64) c) : ∃ b : BitVec 64, c = .int .u64 (N b) := by
  obtain ⟨x, rfl, wf⟩ := h
  obtain ⟨b, rfl⟩ := word_of wf
  exact ⟨b, rfl⟩
theorem fits_u8 {c : Value} (h : fits (some .u8) c) : ∃ x : Int, c = .int .u8 x ∧ 0 ≤ x ∧ x ≤ 255 := by
  obtain ⟨x, rfl, wf⟩ := h
  exact ⟨x, rfl, u8_of wf⟩
theorem fits_i64 {c : Value} (h : fits (some .i64) c) : ∃ x : Int, c = .int .i64 x ∧ -9223372036854775808 ≤ x ∧ x ≤ 9223372036854775807 := by
  obtain ⟨x, rfl, wf⟩ := h
  exact ⟨x, rfl, i64_of wf⟩
theorem fits_bool {c : Value} (h : fits none c) : ∃ b : Bool, c = .bool b := h
/-- cells, one by one -/
theorem array_of {cs : Array Value} {l : List Value} (hn : cs.size = l.length) (h : ∀ i, i < l.length → cs[i]? = l[i]?) : cs = l.toArray := by
  apply Array.ext_getElem?
  intro i
  rcases Nat.lt_or_ge i l.length with hi | hi
  · rw [h i hi]; simp
  · rw [Array.getElem?_eq_none (by omega)]; simp; omega
end Hk
