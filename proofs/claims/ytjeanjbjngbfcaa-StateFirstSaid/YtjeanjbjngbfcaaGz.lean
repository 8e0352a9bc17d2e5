/- What was put to the stack, in parts: plain laws, no program in sight. No condition but those in each statement. States that come of acts: plain laws, no program in sight. No condition but those in each statement. What was put is got: plain laws, no program in sight. No condition but those in each statement. Ahead of a program nothing was put to the stack: plain laws, no program in sight. No condition but those in each statement. An argument that is a slice of structs of numbers and bools alone, opened: its cells, and how it reads where old memory is as it was. No condition but those in each statement. How long a slice in an argument is, against the data that it reads as. No condition but those in each statement. -/
import Derived.Test.YtjeanjbjngbfcaaGu
import Derived.Deep.AppendLies
import Derived.Laws.OwnMore
import Derived.Test.YtjeanjbjngbfcaaGp
import Derived.Deep.Slices
import Derived.ChangeSame
import Derived.ChangeSlices
import Derived.SizedLaws
namespace Hk
set_option linter.unusedVariables false
namespace St
theorem full_nat (x : St) (o n : Nat) : x.full (o : Int) (n : Int) = (decide (o + n ≤ 512) && x.right && x.upB o n) := by
  unfold full fullArg
  rw [Int.toNat_natCast, Int.toNat_natCast]
  congr 2
  by_cases h : o + n ≤ 512
  · simp [h]; omega
  · simp [h]; omega
theorem full_out {x : St} {o n : Nat} (h : ¬ o + n ≤ 512) : x.full (o : Int) (n : Int) = false := by rw [full_nat]; simp [h]
theorem full_parts {x : St} {o n k : Nat} (h : o + n ≤ 512) (hk : k ≤ n) : x.full (o : Int) (n : Int) = (x.full (o : Int) (k : Int) && x.full ((o : Int) + (k : Int)) ((n : Int) - (k : Int))) := by
  have e1 : (o : Int) + (k : Int) = ((o + k : Nat) : Int) := by omega
  have e2 : (n : Int) - (k : Int) = ((n - k : Nat) : Int) := by omega
  rw [e1, e2, full_nat, full_nat, full_nat]
  have e3 : x.upB o n = (x.upB o k && x.upB (o + k) (n - k)) := by
    rw [Bool.eq_iff_iff, Bool.and_eq_true, upB_iff, upB_iff, upB_iff]
    constructor
    · intro h2
      refine ⟨fun i hi => h2 i (by omega), fun i hi => ?_⟩
      have := h2 (k + i) (by omega)
      rwa [← Nat.add_assoc] at this
    · rintro ⟨h2, h3⟩ i hi
      rcases Nat.lt_or_ge i k with h4 | h4
      · exact h2 i h4
      · have := h3 (i - k) (by omega)
        rwa [show o + k + (i - k) = o + i by omega] at this
  rw [e3]
  simp only [show o + n ≤ 512 from h, show o + k ≤ 512 by omega, show o + k + (n - k) ≤ 512 by omega, decide_true, Bool.true_and]
  cases x.right <;> simp
end St
end Hk

namespace Hk
set_option linter.unusedVariables false
namespace St
theorem right_iff {x : St} : x.right = true ↔ (∀ k, k < 11 → Vl.right (x.r k) = true) ∧ ∀ k, k < 64 → Sl.ok (x.s k) = true := by
  unfold right upR upS
  rw [Bool.and_eq_true, all_iff, all_iff]
theorem right_first : first.right = true := by decide +kernel
theorem right_setR {x : St} {k : Nat} {v : Vl} (h : x.right = true) (hv : Vl.right v = true) : (x.setR k v).right = true := by
  rw [right_iff] at h ⊢
  refine ⟨fun i hi => ?_, h.2⟩
  unfold setR
  simp only
  split
  · exact hv
  · exact h.1 i hi
theorem right_slots {x y : St} {j : Nat} (h : x.right = true) (hr : y.r = x.r) (hs : ∀ k, k ≠ j → y.s k = x.s k) (hj : Sl.ok (y.s j) = true) : y.right = true := by
  rw [right_iff] at h ⊢
  refine ⟨fun i hi => by rw [hr]; exact h.1 i hi, fun i hi => ?_⟩
  by_cases e : i = j
  · subst e; exact hj
  · rw [hs i e]; exact h.2 i hi
theorem put1_r (x : St) (o n : Int) (v : Vl) : (x.put1 o n v).r = x.r := rfl
theorem put1_other {x : St} {o n : Int} {v : Vl} {k : Nat} (h : k ≠ o.toNat / 8) : (x.put1 o n v).s k = x.s k := by
  unfold put1 setV setP
  simp [h]
theorem put1_s (x : St) (o n : Int) (v : Vl) : (x.put1 o n v).s (o.toNat / 8) = ⟨if n = 8 then v else Vl.zero, (x.s (o.toNat / 8)).p ||| bits o n⟩ := by
  unfold put1
  rw [setV_s, setP_s]
theorem putArg_r {x : St} {n : Int} {v : Vl} (h : x.putArg n v = true) : sized n = true ∧ Vl.right v = true ∧ ¬ v.k = 0 ∧ (n < 8 → v.k = 1) ∧ x.right = true := by
  unfold putArg at h
  simp only [Bool.and_eq_true, Bool.not_eq_true', decide_eq_false_iff_not, Bool.and_eq_false_iff, Bool.not_eq_false'] at h
  obtain ⟨⟨⟨⟨h1, h2⟩, h3⟩, h4⟩, h5⟩ := h
  refine ⟨h1, h2, h3, fun h8 => ?_, h5⟩
  rcases h4 with h4 | h4
  · exact absurd h8 h4
  · simpa using h4
theorem putE_r {x : St} {o n : Int} {v : Vl} (h : x.putE o n v = 0) : x.putArg n v = true ∧ fitsE o n = 0 := by
  unfold putE at h
  split at h
  · exact ⟨by assumption, h⟩
  · cases h
theorem right_zero_v : Vl.right Vl.zero = true := by decide +kernel
theorem right_put {x : St} {o n : Int} {v : Vl} (h : x.putE o n v = 0) : (x.put o n v).right = true := by
  obtain ⟨h1, h2⟩ := putE_r h
  obtain ⟨hn, hv, hk, h8, hx⟩ := putArg_r h1
  unfold put
  rw [if_pos h]
  refine right_slots hx (put1_r x o n v) (fun k hk => put1_other hk) ?_
  rw [put1_s]
  unfold Sl.ok
  simp only
  by_cases e : n = 8
  · subst e
    have h3 := fits_in h2 (by decide)
    have e2 : (x.s (o.toNat / 8)).p ||| bits o 8 = 255#8 := by
      unfold bits
      rw [h3.2.2]
      have key : ∀ q : BitVec 8, q ||| 255#8 = 255#8 := by decide +kernel
      exact key _
    rw [e2]
    simp [hv]
  · rw [if_neg e, right_zero_v]
    have : Vl.zero.k = 0 := rfl
    simp [this]
theorem right_set {x : St} {i : Int} {v : Vl} (h : x.setOk i v = true) : (x.set i v).right = true := by
  obtain ⟨_, _, h3, h4⟩ := setOk_r h
  unfold set
  rw [if_pos h]
  exact right_setR h4 h3
theorem right_act {x : St} {a : Ac} (h : x.right = true) : (x.act a).right = true := by
  unfold act
  split
  · rename_i he
    unfold actE at he
    unfold actT
    split
    · rename_i h3
      rw [if_pos h3] at he
      apply right_set
      cases e : x.setOk a.o a.v
      · rw [e] at he; simp at he
      · rfl
    · rename_i h3
      rw [if_neg h3] at he
      exact right_put he
  · exact h
theorem right_made (L : Nat → Ac) : ∀ n, (made L n).right = true
  | 0 => right_first
  | n + 1 => right_act (right_made L n)
theorem right_madeN (L : Nat → Ac) (n : Nat) : (madeN L n).right = true := right_made L _
/-- set, and set back -/
theorem setR_back (x : St) (k : Nat) (v : Vl) : (x.setR k v).setR k (x.r k) = x := by
  unfold setR
  congr 1
  funext i
  by_cases h : i = k
  · simp [h]
  · simp [h]
theorem setR_same (x : St) (k : Nat) (v : Vl) : (x.setR k v).r k = v := by unfold setR; simp
theorem setR_other {x : St} {k i : Nat} {v : Vl} (h : ¬ i = k) : (x.setR k v).r i = x.r i := by unfold setR; simp [h]
theorem set_back {x : St} {k : Nat} {v : Vl} (hx : x.right = true) (hv : Vl.right v = true) (hk : k < 11) : (x.setR k v).set (k : Int) (x.r k) = x ∧ (x.setR k v).setOk (k : Int) (x.r k) = true := by
  have h1 : (x.setR k v).setOk (k : Int) (x.r k) = true := by
    unfold setOk
    rw [right_setR hx hv, right_r hx hk]
    simp
    omega
  refine ⟨?_, h1⟩
  unfold set
  rw [if_pos h1]
  exact setR_back x k v
theorem setOk_not {x : St} {i : Int} {v : Vl} (hx : x.right = true) (h : x.setOk i v = false) : i < 0 ∨ 10 < i ∨ Vl.right v = false := by
  unfold setOk at h
  rw [hx] at h
  cases hv : Vl.right v
  · exact .inr (.inr rfl)
  · rw [hv] at h
    simp at h
    omega
end St
end Hk

namespace Hk
set_option linter.unusedVariables false
namespace St
theorem put_bad {x : St} {o n : Int} {v : Vl} (h : ¬ x.putE o n v = 0) : x.put o n v = zero := by unfold put; rw [if_neg h]
theorem put_good {x : St} {o n : Int} {v : Vl} (h : x.putE o n v = 0) : x.put o n v = x.put1 o n v := by unfold put; rw [if_pos h]
theorem or_and (p b : BitVec 8) : (p ||| b) &&& b = b := by
  apply BitVec.eq_of_getLsbD_eq
  intro i hi
  simp
  intro h
  exact .inr h
theorem and_not_or (p b : BitVec 8) : p &&& ~~~(p ||| b) = 0#8 := by
  apply BitVec.eq_of_getLsbD_eq
  intro i hi
  simp
  cases p.getLsbD i <;> simp
theorem put_full {x : St} {o n : Int} {v : Vl} (h : x.putE o n v = 0) : (x.put o n v).full o n = true := by
  obtain ⟨h1, h2⟩ := putE_r h
  obtain ⟨hn, hv, hk, h8, hx⟩ := putArg_r h1
  have hp : 0 < n := by have := sized_is hn; omega
  obtain ⟨j, hj, _, h0, _⟩ := fits_j h2 hp
  have hr := right_put h
  rw [full_slot hn hr h2 hj, put_good h]
  have e : o.toNat / 8 = j := by omega
  rw [← e, put1_s, beq_iff_eq]
  exact or_and _ _
theorem put_getE {x : St} {o n : Int} {v : Vl} (h : x.putE o n v = 0) : (x.put o n v).getE o n = 0 := by
  obtain ⟨h1, h2⟩ := putE_r h
  obtain ⟨hn, _⟩ := putArg_r h1
  unfold getE
  rw [right_put h, hn, if_pos (by rfl), if_pos h2, put_full h, if_pos rfl]
theorem below_kind {n : Int} (h : sized n = true) : (below n).k = 1 := by
  rcases sized_is h with e | e | e | e <;> subst e <;> decide +kernel
theorem put_get {x : St} {o n : Int} {v : Vl} (h : x.putE o n v = 0) : (n = 8 → (x.put o n v).get o n = v) ∧ (n < 8 → ((x.put o n v).get o n).k = 1) := by
  obtain ⟨h1, h2⟩ := putE_r h
  obtain ⟨hn, hv, hk, h8, hx⟩ := putArg_r h1
  have hg := put_getE h
  constructor
  · intro e
    unfold get
    rw [if_pos hg, put_good h, put1_s]
    subst e
    rw [if_pos ⟨rfl, by simpa using hk⟩]
    simp
  · intro e
    unfold get
    rw [if_pos hg, if_neg (by omega)]
    exact below_kind hn
theorem put_sized {x : St} {o n : Int} {v : Vl} (h : x.putE o n v = 0) : (n = 1 ∨ n = 2 ∨ n = 4 ∨ n = 8) ∧ 0 ≤ o ∧ o ≤ 512 - n ∧ (n < 8 → v.k = 1) := by
  obtain ⟨h1, h2⟩ := putE_r h
  obtain ⟨hn, hv, hk, h8, hx⟩ := putArg_r h1
  have h3 := sized_is hn
  obtain ⟨h4, h5, _⟩ := fits_in h2 (by omega)
  exact ⟨h3, h4, h5, h8⟩
theorem put_else {x : St} {o n : Int} {v : Vl} (h : x.putE o n v = 0) {i : Nat} (hi : (i : Int) ≠ o / 8) : (x.put o n v).s i = x.s i := by
  rw [put_good h]
  obtain ⟨_, h0, _⟩ := put_sized h
  exact put1_other (by omega)
theorem put_bits {x : St} {o n : Int} {v : Vl} (h : x.putE o n v = 0) (i : Nat) : (x.s i).p &&& ~~~((x.put o n v).s i).p = 0#8 := by
  rw [put_good h]
  by_cases e : i = o.toNat / 8
  · subst e
    rw [put1_s]
    exact and_not_or _ _
  · rw [put1_other e]
    exact BitVec.and_not_self _
end St
end Hk

namespace Hk
open Go
set_option linter.unusedVariables false
namespace St
theorem first_s (k : Nat) : first.s k = ⟨Vl.zero, 0#8⟩ := rfl
theorem first_bset (o : Nat) : first.bset o = false := by unfold bset; rw [first_s]; simp
theorem first_full {o n : Int} (h : 0 < n) : first.full o n = false := by
  unfold full
  have : first.upB o.toNat n.toNat = false := upB_no (k := 0) (by omega) (first_bset _)
  rw [this, Bool.and_false]
theorem first_get (o n : Int) : ¬ first.getE o n = 0 ∧ first.get o n = Vl.zero := by
  have e : ¬ first.getE o n = 0 := by
    unfold getE
    split
    · rename_i h
      rw [Bool.and_eq_true] at h
      have hn := sized_is h.1
      split
      · rw [first_full (by omega)]; simp
      · assumption
    · decide
  exact ⟨e, by unfold get; rw [if_neg e]⟩
theorem act_r {s : St} {a : Ac} (h : ¬ a.k % 4 = 3) : (s.act a).r = s.r := by
  unfold act
  split
  · rename_i he
    unfold actE at he
    rw [if_neg h] at he
    unfold actT put
    rw [if_neg h, if_pos he]
    rfl
  · rfl
theorem made_r {L : Nat → Ac} : ∀ n, (∀ i, i < n → ¬ (L i).k % 4 = 3) → (made L n).r = first.r
  | 0, _ => rfl
  | n + 1, h => (act_r (h n (by omega))).trans (made_r n fun i hi => h i (by omega))
theorem slotIn_blank (x : Sl) : slotIn x ⟨Vl.zero, 0#8⟩ = true := by
  unfold slotIn
  have e : Vl.zero.k = 0 := rfl
  simp [e]
theorem made_in {L : Nat → Ac} {n : Nat} (h : ∀ i, i < n → ¬ (L i).k % 4 = 3) : (made L n).within first = true := by
  unfold within inR inS
  rw [right_made, right_first, all_iff.2 fun k hk => ?_, all_iff.2 fun k hk => ?_]
  · rfl
  · rw [first_s]; exact slotIn_blank _
  · rw [made_r n h, Vl.within_self]; exact right_r right_first hk
theorem madeN_in {L : Nat → Ac} {len : Nat} (h : ∀ i, i < len → ¬ (L i).k % 4 = 3) : (madeN L len).within first = true := by
  unfold madeN
  exact made_in fun i hi => h i (by split at hi <;> omega)
end St
/-- the cells of many acts, in a row -/
def acells (X : List Ac) : List Value := X.flatMap fun a => a.cells.toList
theorem acells_one (a : Ac) : acells [a] = a.cells.toList := by simp [acells]
theorem acells_add (X : List Ac) (a : Ac) : acells (X ++ [a]) = acells X ++ a.cells.toList := by simp [acells]
theorem acells_get : ∀ (X : List Ac) (i j : Nat) (a : Ac), X[i]? = some a → j < 10 → (acells X)[i * 10 + j]? = some (a.cell j)
  | [], i, j, a, h, _ => by simp at h
  | b :: X, 0, j, a, h, hj => by
    obtain rfl : b = a := by simpa using h
    have e : acells (b :: X) = b.cells.toList ++ acells X := by simp [acells]
    rw [e, List.getElem?_append_left (by simpa [Ac.cells] using hj)]
    match j, hj with
    | 0, _ => simp [Ac.cells, Ac.cell]
    | 1, _ => simp [Ac.cells, Ac.cell]
    | 2, _ => simp [Ac.cells, Ac.cell]
    | 3, _ => simp [Ac.cells, Ac.cell, Vl.cell]
    | 4, _ => simp [Ac.cells, Ac.cell, Vl.cell]
    | 5, _ => simp [Ac.cells, Ac.cell, Vl.cell]
    | 6, _ => simp [Ac.cells, Ac.cell, Vl.cell]
    | 7, _ => simp [Ac.cells, Ac.cell, Vl.cell]
    | 8, _ => simp [Ac.cells, Ac.cell, Vl.cell]
    | 9, _ => simp [Ac.cells, Ac.cell, Vl.cell]
    | k + 10, h => exact absurd h (by omega)
  | b :: X, i + 1, j, a, h, hj => by
    have e : acells (b :: X) = b.cells.toList ++ acells X := by simp [acells]
    have hl : b.cells.toList.length = 10 := by simp [Ac.cells]
    rw [e, List.getElem?_append_right (by omega), hl, show (i + 1) * 10 + j - 10 = i * 10 + j by omega]
    exact acells_get X i j a (by simpa using h) hj
/-- the acts of a list, by number -/
def actAt (X : List Ac) (i : Nat) : Ac := (X[i]?).getD ⟨0, 0, 0, Vl.zero⟩
/-- acts that the call itself has put in a row -/
theorem acts_own {w : World} {base e : Nat} {v : Value} {X : List Ac} (h : w.ownsRow base e 10 v X.length (acells X)) (hr : ∀ a ∈ X, a.right) :
    ∃ p cap, v = .slice p X.length cap ∧ Acts w p X.length (actAt X) := by
  by_cases h0 : X.length = 0
  · rcases h.2 with ⟨rfl, _⟩ | ⟨g, cap, cur, rfl, _⟩
    · exact ⟨none, 0, by rw [h0], fun i hi => absurd hi (by omega)⟩
    · exact ⟨some ⟨g, 0, none⟩, cap, rfl, fun i hi => absurd hi (by omega)⟩
  · obtain ⟨g, cap, hv, _, hlt⟩ := h.form (by omega)
    subst hv
    refine ⟨some ⟨g, 0, none⟩, cap, rfl, fun i hi => ⟨g, 0, rfl, ?_, fun j hj => ?_⟩⟩
    · unfold actAt
      rw [List.getElem?_eq_getElem hi]
      exact hr _ (List.getElem_mem hi)
    · have h1 := h.cells (g := g) rfl (i * 10 + j) _ (acells_get X i j (actAt X i) (by unfold actAt; rw [List.getElem?_eq_getElem hi]; rfl) hj)
      have e2 : (⟨g, 0, none⟩ : Addr).add (i * 10 + j) = ⟨g, 0 + i * 10 + j, none⟩ := by
        unfold Addr.add
        split <;> simp_all
      rwa [e2] at h1
end Hk

namespace Hk
open Go Go.ChangeShapes Go.WideShapes Go.RowKit Go.Deep
set_option linter.unusedVariables false
section
variable {H : Type} {enc : TypeId × Value → H} {P : Program}
theorem cells_below {w w' : World} {a : Addr} {n base : Nat} (hb : Below w.heap.size w w') (h : a.block < w.heap.size) : w'.cells? base a n = w.cells? base a n := by
  unfold World.cells?
  have e : (fun i => w'.cell? (a.add i)) = fun i => w.cell? (a.add i) := by
    funext i
    refine hb.cell ?_
    unfold Addr.add
    split
    · exact h
    · exact h
  rw [e]
theorem add_plain (b o n : Nat) : (⟨b, o, none⟩ : Addr).add n = ⟨b, o + n, none⟩ := by unfold Addr.add; split <;> simp_all
theorem open_flats {n : Nat} {t e : TypeId} (ht : P.underlying t = some (.slice e)) (hf : flat P n e = true) (hC : 0 < P.cellsOf e) {w : World} {b0 : Nat} {r : Reach} {v : Value} {d : DataW H} {ps : List MemPlace}
    (hv : Value.okWide P w r b0 t v) (h : DataW.Trod enc P w 0 (fun _ => true) true t v d ps) (hlt : ∀ p ∈ ps, p.block < w.heap.size) :
    ∃ (p : Option Addr) (len cap : Nat), v = .slice p len cap ∧ len ≤ 9223372036854775807 ∧
      (∀ i, i < len → ∃ b o, p = some ⟨b, o, none⟩ ∧ ∃ cs : List Value, cs.length = P.cellsOf e ∧ (∀ j, j < P.cellsOf e → w.cell? ⟨b, o + i * P.cellsOf e + j, none⟩ = cs[j]?) ∧ ∀ j lf, leafAt P n e j = some lf → ∃ c, cs[j]? = some c ∧ fits lf c) ∧
      ∀ (w' : World) (sp' : Nat → Bool), Below w.heap.size w w' → (∀ p ∈ ps, sp' p.block = true) → DataW.Trod enc P w' 0 sp' true t v d ps := by
  obtain ⟨a, len, cap, rfl⟩ := okWide_slice ht hv
  obtain ⟨fuel, hx⟩ := h
  rcases open_slice ht hx with ⟨h0, h1⟩ | ⟨a', len', cap', m, n', D, Pl, hcs, hb, hl, hm, hmm, hxx, hi⟩
  · obtain ⟨rfl, rfl, rfl⟩ : a = none ∧ len = 0 ∧ cap = 0 := by simpa [Value.cells] using h0
    simp only [Prod.mk.injEq] at h1
    obtain ⟨rfl, rfl⟩ := h1
    exact ⟨none, 0, 0, rfl, by decide, fun i hi => absurd hi (by omega), fun w' sp' _ _ => shut_slice_nil ht⟩
  · obtain ⟨rfl, rfl, rfl⟩ : a = some a' ∧ len = len' ∧ cap = cap' := by simpa [Value.cells] using hcs
    simp only [if_true] at hmm
    subst hmm
    simp only [Prod.mk.injEq] at hxx
    obtain ⟨rfl, rfl⟩ := hxx
    have hPl : ∀ i, i < m → Pl i = [] ∧ ∃ cs', w.cells? 0 (a'.add (i * P.cellsOf e)) (P.cellsOf e) = some cs' ∧ DataW.trod enc P w 0 (fun _ => true) true n' e cs' = some (D i, Pl i) := fun i him => by
      obtain ⟨cs', h1, h2⟩ := hi i him
      exact ⟨(trod_flat n e hf _ _ _ _ _ _ _ h2).1, cs', h1, h2⟩
    have hblk : 0 < m → MemPlace.cell a'.block (a'.off + 0) ∈ MemPlace.row a' (m * P.cellsOf e) ++ List.flatMap Pl (List.range m) := fun hm0 => by
      rw [List.mem_append]
      left
      unfold MemPlace.row
      rw [List.mem_map]
      exact ⟨0, by simpa using Nat.mul_pos hm0 hC, rfl⟩
    refine ⟨some a', len, m, rfl, by unfold maxLen at hm; omega, fun i hil => ?_, fun w' sp' hB hsp => ?_⟩
    · have hsn : a'.spot = none := by
        obtain ⟨_, cs', h1, _⟩ := hPl 0 (by omega)
        obtain ⟨_, h2, h3⟩ := World.cells?_some h1
        have h4 := h3 0 hC
        rw [List.getElem?_eq_getElem (by omega)] at h4
        simp only [Nat.zero_mul] at h4
        have h5 : (a'.add 0).add 0 = a' := rfl
        rw [h5] at h4
        cases hs : a'.spot with
        | none => rfl
        | some x =>
          unfold World.cell? at h4
          simp only [hs, Option.isSome_some, if_true] at h4
          split at h4 <;> cases h4
      obtain ⟨b, o, s⟩ := a'
      simp only at hsn
      subst hsn
      obtain ⟨_, cs', h1, h2⟩ := hPl i (by omega)
      obtain ⟨_, h3, h4⟩ := World.cells?_some h1
      refine ⟨b, o, rfl, cs', h3, fun j hj => ?_, fun j lf hlf => trod_leaf n e j lf hlf _ _ _ _ _ _ _ h2⟩
      have := h4 j hj
      rwa [add_plain, add_plain] at this
    · by_cases hm0 : 0 < m
      · have hmem := hblk hm0
        have hlt' := hlt _ hmem
        have hsp' := hsp _ hmem
        refine shut_slice_whole ht (Nat.zero_le _) hl hm hsp' D Pl fun i him => ?_
        obtain ⟨_, cs', h1, h2⟩ := hPl i him
        refine ⟨cs', n', ?_, (trod_flat n e hf _ _ _ _ _ _ _ h2).2 _ _ _ _⟩
        rw [cells_below hB ?_]
        · exact h1
        · unfold Addr.add
          split
          · exact hlt'
          · exact hlt'
      · obtain rfl : m = 0 := by omega
        obtain rfl : len = 0 := by omega
        cases hs : sp' a'.block
        · have := shut_slice (enc := enc) (w := w') (base := 0) (spare := sp') (held := true) (a := a') (len := 0) (cap := 0) ht (Nat.zero_le _) (Nat.le_refl _) hm hs D Pl (fun i hi => absurd hi (by omega))
          exact this
        · exact shut_slice_whole ht (Nat.zero_le _) (Nat.le_refl _) hm hs D Pl fun i hi => absurd hi (by omega)
end
end Hk

namespace Hk
open Go Go.ChangeShapes Go.WideShapes Go.RowKit Go.Deep
set_option linter.unusedVariables false
section
variable {H : Type} {enc : TypeId × Value → H} {P : Program}
theorem slice_len {t e : TypeId} (ht : P.underlying t = some (.slice e)) {w : World} {p : Option Addr} {len cap : Nat} {d : DataW H} {ps : List MemPlace}
    (h : DataW.Trod enc P w 0 (fun _ => true) true t (.slice p len cap) d ps) : len = 0 ∨ ∃ elems spare, d = .slice elems spare ∧ len ≤ elems.length + spare.length := by
  obtain ⟨fuel, hx⟩ := h
  rcases open_slice ht hx with ⟨h0, h1⟩ | ⟨a', len', cap', m, n', D, Pl, hcs, hb, hl, hm, hmm, hxx, hi⟩
  · obtain ⟨rfl, rfl, rfl⟩ : p = none ∧ len = 0 ∧ cap = 0 := by simpa [Value.cells] using h0
    exact .inl rfl
  · obtain ⟨rfl, rfl, rfl⟩ : p = some a' ∧ len = len' ∧ cap = cap' := by simpa [Value.cells] using hcs
    simp only [Prod.mk.injEq] at hxx
    obtain ⟨rfl, rfl⟩ := hxx
    exact .inr ⟨_, _, rfl, by simp⟩
/-- and how many bytes it takes, where no part of the data is more than what may be reached -/
theorem slice_bytes {t e n : TypeId} (ht : P.underlying t = some (.slice e)) (hn : P.bytesOf e = n) {w : World} {p : Option Addr} {len cap : Nat} {d : DataW H} {ps : List MemPlace}
    (h : DataW.Trod enc P w 0 (fun _ => true) true t (.slice p len cap) d ps)
    (hs : ∀ el sp, d = .slice el sp → (el.length + sp.length) * P.bytesOf e ≤ reachBytes) : len * n ≤ 140737488351232 := by
  rcases slice_len ht h with rfl | ⟨el, sp, rfl, hl⟩
  · omega
  · have h1 := hs el sp rfl
    rw [hn] at h1
    exact Nat.le_trans (Nat.mul_le_mul_right n hl) (Nat.le_trans h1 (by decide))
end
end Hk

