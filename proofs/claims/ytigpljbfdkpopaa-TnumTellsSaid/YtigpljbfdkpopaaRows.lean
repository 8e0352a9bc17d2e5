/-
  No cell of these rows narrows 'for every input' (looked for: loops, veiled, ifaces, maps, wideKeys, modest, calm, conditions, laid).
  DERIVED. THE GIVEN ROWS OF THIS SEAT. 7 by the template 'for every input the law returns true; each argument reads behind the call as it read before'; 0 by the template 'total and deterministic' (their statements: YtigpljbfdkpopaaTotals.lean).
  GIVEN WITH THE SEED: the statements are not yours to turn. If you find one false, say at which input.
  Laid BY PROGRAM, IN A SANDBOX (cutbox-rows.mjs): the forced cells as the released guide's own fill.sh prints them over the translation cd5d4fe9f1c8b87c… (all of the seat's roots in one cut). By AI agents, Wed Nov 11 2026. No macro, syntax, notation, axiom, sorry.
-/
import Derived.Test.YtigpljbfdkpopaaChecked
import GoSem.Claim
import GoSem.ClaimJoined
import GoSem.ClaimMapViews
import Derived.JoinedTies
import Derived.KernelRfl
namespace Go.Proofs.Ytigpljbfdkpopaa
/- THE CELL 'sum', in the pinned program and in every row, IS THE sha256 OF THE DUMP (.gsa) THAT YtigpljbfdkpopaaProg.lean LOADS. Nothing in Lean hashes anything: it is a label: what it is worth is what the hold of that sum in a sandbox is worth. -/
noncomputable def Try.pinned : Pinned := { name := "ytigpljbfdkpopaa", sum := "cd5d4fe9f1c8b87c96aea51195a8ef590f6fa3511e9836d4cdb0226c133c4902", checked := Try.checked }
namespace Rows
def none {H : Type} : Left H := { results := [], args := [] }

/-- 'hacklelaw04.TnumDoes': WHATEVER THE INPUT: true; the input reads as it did. -/
def tnumDoesSpec : ChangeSpec := { name := "tnumDoes", fn := fun _ => fun
  | [d1, d2, d3] => { results := [.lit (.bool true)], args := [d1, d2, d3] }
  | _ => none }
def tnumDoesRow : OpenClaim := { program := "ytigpljbfdkpopaa", sum := "cd5d4fe9f1c8b87c96aea51195a8ef590f6fa3511e9836d4cdb0226c133c4902", func := "hackle/hacklelaw04.TnumDoes", spec := "tnumDoes", apart := false }
def TnumDoesSaid : Prop := tnumDoesRow.holds Try.pinned (OpenSpec.ofChange tnumDoesSpec)

/-- ITS FALSE NEIGHBOUR: 'it returns false'. Refute it at one input. -/
def tnumDoesWrong : ChangeSpec := { name := "tnumDoes", fn := fun _ => fun
  | [d1, d2, d3] => { results := [.lit (.bool false)], args := [d1, d2, d3] }
  | _ => none }
def TnumDoesWrongFalsely : Prop := tnumDoesRow.holds Try.pinned (OpenSpec.ofChange tnumDoesWrong)

/-- 'hacklelaw04.TnumSound': WHATEVER THE INPUT: true; the input reads as it did. -/
def tnumSoundSpec : ChangeSpec := { name := "tnumSound", fn := fun _ => fun
  | [d1, d2, d3, d4, d5, d6, d7] => { results := [.lit (.bool true)], args := [d1, d2, d3, d4, d5, d6, d7] }
  | _ => none }
def tnumSoundRow : OpenClaim := { program := "ytigpljbfdkpopaa", sum := "cd5d4fe9f1c8b87c96aea51195a8ef590f6fa3511e9836d4cdb0226c133c4902", func := "hackle/hacklelaw04.TnumSound", spec := "tnumSound", apart := false }
def TnumSoundSaid : Prop := tnumSoundRow.holds Try.pinned (OpenSpec.ofChange tnumSoundSpec)

/-- ITS FALSE NEIGHBOUR: 'it returns false'. Refute it at one input. -/
def tnumSoundWrong : ChangeSpec := { name := "tnumSound", fn := fun _ => fun
  | [d1, d2, d3, d4, d5, d6, d7] => { results := [.lit (.bool false)], args := [d1, d2, d3, d4, d5, d6, d7] }
  | _ => none }
def TnumSoundWrongFalsely : Prop := tnumSoundRow.holds Try.pinned (OpenSpec.ofChange tnumSoundWrong)

/-- 'hacklelaw04.TnumOrder': WHATEVER THE INPUT: true; the input reads as it did. -/
def tnumOrderSpec : ChangeSpec := { name := "tnumOrder", fn := fun _ => fun
  | [d1, d2, d3, d4, d5, d6] => { results := [.lit (.bool true)], args := [d1, d2, d3, d4, d5, d6] }
  | _ => none }
def tnumOrderRow : OpenClaim := { program := "ytigpljbfdkpopaa", sum := "cd5d4fe9f1c8b87c96aea51195a8ef590f6fa3511e9836d4cdb0226c133c4902", func := "hackle/hacklelaw04.TnumOrder", spec := "tnumOrder", apart := false }
def TnumOrderSaid : Prop := tnumOrderRow.holds Try.pinned (OpenSpec.ofChange tnumOrderSpec)

/-- ITS FALSE NEIGHBOUR: 'it returns false'. Refute it at one input. -/
def tnumOrderWrong : ChangeSpec := { name := "tnumOrder", fn := fun _ => fun
  | [d1, d2, d3, d4, d5, d6] => { results := [.lit (.bool false)], args := [d1, d2, d3, d4, d5, d6] }
  | _ => none }
def TnumOrderWrongFalsely : Prop := tnumOrderRow.holds Try.pinned (OpenSpec.ofChange tnumOrderWrong)

/-- 'hacklelaw04.TnumParts': WHATEVER THE INPUT: true; the input reads as it did. -/
def tnumPartsSpec : ChangeSpec := { name := "tnumParts", fn := fun _ => fun
  | [d1, d2, d3, d4, d5, d6] => { results := [.lit (.bool true)], args := [d1, d2, d3, d4, d5, d6] }
  | _ => none }
def tnumPartsRow : OpenClaim := { program := "ytigpljbfdkpopaa", sum := "cd5d4fe9f1c8b87c96aea51195a8ef590f6fa3511e9836d4cdb0226c133c4902", func := "hackle/hacklelaw04.TnumParts", spec := "tnumParts", apart := false }
def TnumPartsSaid : Prop := tnumPartsRow.holds Try.pinned (OpenSpec.ofChange tnumPartsSpec)

/-- ITS FALSE NEIGHBOUR: 'it returns false'. Refute it at one input. -/
def tnumPartsWrong : ChangeSpec := { name := "tnumParts", fn := fun _ => fun
  | [d1, d2, d3, d4, d5, d6] => { results := [.lit (.bool false)], args := [d1, d2, d3, d4, d5, d6] }
  | _ => none }
def TnumPartsWrongFalsely : Prop := tnumPartsRow.holds Try.pinned (OpenSpec.ofChange tnumPartsWrong)

/-- 'hacklelaw04.TnumKnown': WHATEVER THE INPUT: true; the input reads as it did. -/
def tnumKnownSpec : ChangeSpec := { name := "tnumKnown", fn := fun _ => fun
  | [d1, d2, d3, d4] => { results := [.lit (.bool true)], args := [d1, d2, d3, d4] }
  | _ => none }
def tnumKnownRow : OpenClaim := { program := "ytigpljbfdkpopaa", sum := "cd5d4fe9f1c8b87c96aea51195a8ef590f6fa3511e9836d4cdb0226c133c4902", func := "hackle/hacklelaw04.TnumKnown", spec := "tnumKnown", apart := false }
def TnumKnownSaid : Prop := tnumKnownRow.holds Try.pinned (OpenSpec.ofChange tnumKnownSpec)

/-- ITS FALSE NEIGHBOUR: 'it returns false'. Refute it at one input. -/
def tnumKnownWrong : ChangeSpec := { name := "tnumKnown", fn := fun _ => fun
  | [d1, d2, d3, d4] => { results := [.lit (.bool false)], args := [d1, d2, d3, d4] }
  | _ => none }
def TnumKnownWrongFalsely : Prop := tnumKnownRow.holds Try.pinned (OpenSpec.ofChange tnumKnownWrong)

/-- 'hacklelaw04.TnumTells': WHATEVER THE INPUT: true; the input reads as it did. -/
def tnumTellsSpec : ChangeSpec := { name := "tnumTells", fn := fun _ => fun
  | [d1, d2, d3, d4] => { results := [.lit (.bool true)], args := [d1, d2, d3, d4] }
  | _ => none }
def tnumTellsRow : OpenClaim := { program := "ytigpljbfdkpopaa", sum := "cd5d4fe9f1c8b87c96aea51195a8ef590f6fa3511e9836d4cdb0226c133c4902", func := "hackle/hacklelaw04.TnumTells", spec := "tnumTells", apart := false }
def TnumTellsSaid : Prop := tnumTellsRow.holds Try.pinned (OpenSpec.ofChange tnumTellsSpec)

/-- ITS FALSE NEIGHBOUR: 'it returns false'. Refute it at one input. -/
def tnumTellsWrong : ChangeSpec := { name := "tnumTells", fn := fun _ => fun
  | [d1, d2, d3, d4] => { results := [.lit (.bool false)], args := [d1, d2, d3, d4] }
  | _ => none }
def TnumTellsWrongFalsely : Prop := tnumTellsRow.holds Try.pinned (OpenSpec.ofChange tnumTellsWrong)

/-- 'hacklelaw04.TnumSelf': WHATEVER THE INPUT: true; the input reads as it did. -/
def tnumSelfSpec : ChangeSpec := { name := "tnumSelf", fn := fun _ => fun
  | [d1, d2, d3, d4, d5] => { results := [.lit (.bool true)], args := [d1, d2, d3, d4, d5] }
  | _ => none }
def tnumSelfRow : OpenClaim := { program := "ytigpljbfdkpopaa", sum := "cd5d4fe9f1c8b87c96aea51195a8ef590f6fa3511e9836d4cdb0226c133c4902", func := "hackle/hacklelaw04.TnumSelf", spec := "tnumSelf", apart := false }
def TnumSelfSaid : Prop := tnumSelfRow.holds Try.pinned (OpenSpec.ofChange tnumSelfSpec)

/-- ITS FALSE NEIGHBOUR: 'it returns false'. Refute it at one input. -/
def tnumSelfWrong : ChangeSpec := { name := "tnumSelf", fn := fun _ => fun
  | [d1, d2, d3, d4, d5] => { results := [.lit (.bool false)], args := [d1, d2, d3, d4, d5] }
  | _ => none }
def TnumSelfWrongFalsely : Prop := tnumSelfRow.holds Try.pinned (OpenSpec.ofChange tnumSelfWrong)

/- THE SECOND FORM. 'bulk': how many values and letters a reading holds, each counted each time it is reached (what is shared counts as often as it is met; a slice's spare places count too). A statement '..UptoSaid' is the law's where the arguments, and the package variables that the reading takes, are together of bulk at most 1048576: NARROWER than '..Said'. Prove '..Said' where nothing that the law and all that it calls make is longer than what came in: it says more and counts as full. Else prove '..UptoSaid'. A law counts once. -/
mutual
def uptoBulk {H : Type} : DataW H → Nat
  | .lit (.string bytes) => bytes.length + 1
  | .lit _ => 1
  | .nil => 1
  | .ptr d => uptoBulk d + 1
  | .slice elems spare => uptoBulkAll elems + uptoBulkAll spare + 1
  | .agg parts => uptoBulkAll parts + 1
  | .iface _ d => uptoBulk d + 1
  | .map entries => uptoBulkEntries entries + 1
  | .held _ => 1
def uptoBulkAll {H : Type} : List (DataW H) → Nat
  | [] => 0
  | d :: r => uptoBulk d + uptoBulkAll r
def uptoBulkEntries {H : Type} : List (Lit × DataW H) → Nat
  | [] => 0
  | x :: r => uptoBulkEntry x + uptoBulkEntries r
def uptoBulkEntry {H : Type} : Lit × DataW H → Nat
  | (.string bytes, d) => bytes.length + uptoBulk d + 1
  | (_, d) => uptoBulk d + 1
 end
def uptoSmall : (H : Type) → List (DataW H) → Bool := fun _ ds => decide (uptoBulkAll ds ≤ 1048576)
def OpenSpec.upto (s : _root_.Go.ChangeSpec) : _root_.Go.OpenSpec := { _root_.Go.OpenSpec.ofChange s with cond := some uptoSmall }

/-- 'hacklelaw04.TnumDoes', WHERE WHAT IT READS IS OF BULK AT MOST 1048576: true; the input reads as it did. -/
def tnumDoesUptoRow : OpenClaim := { program := "ytigpljbfdkpopaa", sum := "cd5d4fe9f1c8b87c96aea51195a8ef590f6fa3511e9836d4cdb0226c133c4902", func := "hackle/hacklelaw04.TnumDoes", spec := "tnumDoes", apart := false, narrowed := true }
def TnumDoesUptoSaid : Prop := tnumDoesUptoRow.holds Try.pinned (OpenSpec.upto tnumDoesSpec)

/-- 'hacklelaw04.TnumSound', WHERE WHAT IT READS IS OF BULK AT MOST 1048576: true; the input reads as it did. -/
def tnumSoundUptoRow : OpenClaim := { program := "ytigpljbfdkpopaa", sum := "cd5d4fe9f1c8b87c96aea51195a8ef590f6fa3511e9836d4cdb0226c133c4902", func := "hackle/hacklelaw04.TnumSound", spec := "tnumSound", apart := false, narrowed := true }
def TnumSoundUptoSaid : Prop := tnumSoundUptoRow.holds Try.pinned (OpenSpec.upto tnumSoundSpec)

/-- 'hacklelaw04.TnumOrder', WHERE WHAT IT READS IS OF BULK AT MOST 1048576: true; the input reads as it did. -/
def tnumOrderUptoRow : OpenClaim := { program := "ytigpljbfdkpopaa", sum := "cd5d4fe9f1c8b87c96aea51195a8ef590f6fa3511e9836d4cdb0226c133c4902", func := "hackle/hacklelaw04.TnumOrder", spec := "tnumOrder", apart := false, narrowed := true }
def TnumOrderUptoSaid : Prop := tnumOrderUptoRow.holds Try.pinned (OpenSpec.upto tnumOrderSpec)

/-- 'hacklelaw04.TnumParts', WHERE WHAT IT READS IS OF BULK AT MOST 1048576: true; the input reads as it did. -/
def tnumPartsUptoRow : OpenClaim := { program := "ytigpljbfdkpopaa", sum := "cd5d4fe9f1c8b87c96aea51195a8ef590f6fa3511e9836d4cdb0226c133c4902", func := "hackle/hacklelaw04.TnumParts", spec := "tnumParts", apart := false, narrowed := true }
def TnumPartsUptoSaid : Prop := tnumPartsUptoRow.holds Try.pinned (OpenSpec.upto tnumPartsSpec)

/-- 'hacklelaw04.TnumKnown', WHERE WHAT IT READS IS OF BULK AT MOST 1048576: true; the input reads as it did. -/
def tnumKnownUptoRow : OpenClaim := { program := "ytigpljbfdkpopaa", sum := "cd5d4fe9f1c8b87c96aea51195a8ef590f6fa3511e9836d4cdb0226c133c4902", func := "hackle/hacklelaw04.TnumKnown", spec := "tnumKnown", apart := false, narrowed := true }
def TnumKnownUptoSaid : Prop := tnumKnownUptoRow.holds Try.pinned (OpenSpec.upto tnumKnownSpec)

/-- 'hacklelaw04.TnumTells', WHERE WHAT IT READS IS OF BULK AT MOST 1048576: true; the input reads as it did. -/
def tnumTellsUptoRow : OpenClaim := { program := "ytigpljbfdkpopaa", sum := "cd5d4fe9f1c8b87c96aea51195a8ef590f6fa3511e9836d4cdb0226c133c4902", func := "hackle/hacklelaw04.TnumTells", spec := "tnumTells", apart := false, narrowed := true }
def TnumTellsUptoSaid : Prop := tnumTellsUptoRow.holds Try.pinned (OpenSpec.upto tnumTellsSpec)

/-- 'hacklelaw04.TnumSelf', WHERE WHAT IT READS IS OF BULK AT MOST 1048576: true; the input reads as it did. -/
def tnumSelfUptoRow : OpenClaim := { program := "ytigpljbfdkpopaa", sum := "cd5d4fe9f1c8b87c96aea51195a8ef590f6fa3511e9836d4cdb0226c133c4902", func := "hackle/hacklelaw04.TnumSelf", spec := "tnumSelf", apart := false, narrowed := true }
def TnumSelfUptoSaid : Prop := tnumSelfUptoRow.holds Try.pinned (OpenSpec.upto tnumSelfSpec)

end Rows
end Go.Proofs.Ytigpljbfdkpopaa
