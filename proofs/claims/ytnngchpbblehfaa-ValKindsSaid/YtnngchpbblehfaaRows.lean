/-
  No cell of these rows narrows 'for every input' (looked for: loops, veiled, ifaces, maps, wideKeys, modest, calm, conditions, laid).
  DERIVED. THE GIVEN ROWS OF THIS SEAT. 6 by the template 'for every input the law returns true; each argument reads behind the call as it read before'; 0 by the template 'total and deterministic' (their statements: YtnngchpbblehfaaTotals.lean).
  GIVEN WITH THE SEED: the statements are not yours to turn. If you find one false, say at which input.
  Laid BY PROGRAM, IN A SANDBOX (cutbox-rows.mjs): the forced cells as the released guide's own fill.sh prints them over the translation 3e5bf915111cd710… (all of the seat's roots in one cut). By AI agents, Wed Nov 11 2026. No macro, syntax, notation, axiom, sorry.
-/
import Derived.Test.YtnngchpbblehfaaChecked
import GoSem.Claim
import GoSem.ClaimJoined
import GoSem.ClaimMapViews
import Derived.JoinedTies
import Derived.KernelRfl
namespace Go.Proofs.Ytnngchpbblehfaa
/- THE CELL 'sum', in the pinned program and in every row, IS THE sha256 OF THE DUMP (.gsa) THAT YtnngchpbblehfaaProg.lean LOADS. Nothing in Lean hashes anything: it is a label: what it is worth is what the hold of that sum in a sandbox is worth. -/
noncomputable def Try.pinned : Pinned := { name := "ytnngchpbblehfaa", sum := "3e5bf915111cd7102d2f58281f9bf97c680a0ea1303e971cf4b2b5d9cc10a6b1", checked := Try.checked }
namespace Rows
def none {H : Type} : Left H := { results := [], args := [] }

/-- 'hacklelaw12.ValTells': WHATEVER THE INPUT: true; the input reads as it did. -/
def valTellsSpec : ChangeSpec := { name := "valTells", fn := fun _ => fun
  | [d1, d2, d3, d4] => { results := [.lit (.bool true)], args := [d1, d2, d3, d4] }
  | _ => none }
def valTellsRow : OpenClaim := { program := "ytnngchpbblehfaa", sum := "3e5bf915111cd7102d2f58281f9bf97c680a0ea1303e971cf4b2b5d9cc10a6b1", func := "hackle/hacklelaw12.ValTells", spec := "valTells", apart := false }
def ValTellsSaid : Prop := valTellsRow.holds Try.pinned (OpenSpec.ofChange valTellsSpec)

/-- ITS FALSE NEIGHBOUR: 'it returns false'. Refute it at one input. -/
def valTellsWrong : ChangeSpec := { name := "valTells", fn := fun _ => fun
  | [d1, d2, d3, d4] => { results := [.lit (.bool false)], args := [d1, d2, d3, d4] }
  | _ => none }
def ValTellsWrongFalsely : Prop := valTellsRow.holds Try.pinned (OpenSpec.ofChange valTellsWrong)

/-- 'hacklelaw12.ValMoves': WHATEVER THE INPUT: true; the input reads as it did. -/
def valMovesSpec : ChangeSpec := { name := "valMoves", fn := fun _ => fun
  | [d1, d2, d3] => { results := [.lit (.bool true)], args := [d1, d2, d3] }
  | _ => none }
def valMovesRow : OpenClaim := { program := "ytnngchpbblehfaa", sum := "3e5bf915111cd7102d2f58281f9bf97c680a0ea1303e971cf4b2b5d9cc10a6b1", func := "hackle/hacklelaw12.ValMoves", spec := "valMoves", apart := false }
def ValMovesSaid : Prop := valMovesRow.holds Try.pinned (OpenSpec.ofChange valMovesSpec)

/-- ITS FALSE NEIGHBOUR: 'it returns false'. Refute it at one input. -/
def valMovesWrong : ChangeSpec := { name := "valMoves", fn := fun _ => fun
  | [d1, d2, d3] => { results := [.lit (.bool false)], args := [d1, d2, d3] }
  | _ => none }
def ValMovesWrongFalsely : Prop := valMovesRow.holds Try.pinned (OpenSpec.ofChange valMovesWrong)

/-- 'hacklelaw12.ValKinds': WHATEVER THE INPUT: true; the input reads as it did. -/
def valKindsSpec : ChangeSpec := { name := "valKinds", fn := fun _ => fun
  | [d1, d2, d3, d4] => { results := [.lit (.bool true)], args := [d1, d2, d3, d4] }
  | _ => none }
def valKindsRow : OpenClaim := { program := "ytnngchpbblehfaa", sum := "3e5bf915111cd7102d2f58281f9bf97c680a0ea1303e971cf4b2b5d9cc10a6b1", func := "hackle/hacklelaw12.ValKinds", spec := "valKinds", apart := false }
def ValKindsSaid : Prop := valKindsRow.holds Try.pinned (OpenSpec.ofChange valKindsSpec)

/-- ITS FALSE NEIGHBOUR: 'it returns false'. Refute it at one input. -/
def valKindsWrong : ChangeSpec := { name := "valKinds", fn := fun _ => fun
  | [d1, d2, d3, d4] => { results := [.lit (.bool false)], args := [d1, d2, d3, d4] }
  | _ => none }
def ValKindsWrongFalsely : Prop := valKindsRow.holds Try.pinned (OpenSpec.ofChange valKindsWrong)

/-- 'hacklelaw12.ValTwo': WHATEVER THE INPUT: true; the input reads as it did. -/
def valTwoSpec : ChangeSpec := { name := "valTwo", fn := fun _ => fun
  | [d1, d2] => { results := [.lit (.bool true)], args := [d1, d2] }
  | _ => none }
def valTwoRow : OpenClaim := { program := "ytnngchpbblehfaa", sum := "3e5bf915111cd7102d2f58281f9bf97c680a0ea1303e971cf4b2b5d9cc10a6b1", func := "hackle/hacklelaw12.ValTwo", spec := "valTwo", apart := false }
def ValTwoSaid : Prop := valTwoRow.holds Try.pinned (OpenSpec.ofChange valTwoSpec)

/-- ITS FALSE NEIGHBOUR: 'it returns false'. Refute it at one input. -/
def valTwoWrong : ChangeSpec := { name := "valTwo", fn := fun _ => fun
  | [d1, d2] => { results := [.lit (.bool false)], args := [d1, d2] }
  | _ => none }
def ValTwoWrongFalsely : Prop := valTwoRow.holds Try.pinned (OpenSpec.ofChange valTwoWrong)

/-- 'hacklelaw12.ValSound': WHATEVER THE INPUT: true; the input reads as it did. -/
def valSoundSpec : ChangeSpec := { name := "valSound", fn := fun _ => fun
  | [d1, d2, d3, d4] => { results := [.lit (.bool true)], args := [d1, d2, d3, d4] }
  | _ => none }
def valSoundRow : OpenClaim := { program := "ytnngchpbblehfaa", sum := "3e5bf915111cd7102d2f58281f9bf97c680a0ea1303e971cf4b2b5d9cc10a6b1", func := "hackle/hacklelaw12.ValSound", spec := "valSound", apart := false }
def ValSoundSaid : Prop := valSoundRow.holds Try.pinned (OpenSpec.ofChange valSoundSpec)

/-- ITS FALSE NEIGHBOUR: 'it returns false'. Refute it at one input. -/
def valSoundWrong : ChangeSpec := { name := "valSound", fn := fun _ => fun
  | [d1, d2, d3, d4] => { results := [.lit (.bool false)], args := [d1, d2, d3, d4] }
  | _ => none }
def ValSoundWrongFalsely : Prop := valSoundRow.holds Try.pinned (OpenSpec.ofChange valSoundWrong)

/-- 'hacklelaw12.ValOrder': WHATEVER THE INPUT: true; the input reads as it did. -/
def valOrderSpec : ChangeSpec := { name := "valOrder", fn := fun _ => fun
  | [d1, d2, d3] => { results := [.lit (.bool true)], args := [d1, d2, d3] }
  | _ => none }
def valOrderRow : OpenClaim := { program := "ytnngchpbblehfaa", sum := "3e5bf915111cd7102d2f58281f9bf97c680a0ea1303e971cf4b2b5d9cc10a6b1", func := "hackle/hacklelaw12.ValOrder", spec := "valOrder", apart := false }
def ValOrderSaid : Prop := valOrderRow.holds Try.pinned (OpenSpec.ofChange valOrderSpec)

/-- ITS FALSE NEIGHBOUR: 'it returns false'. Refute it at one input. -/
def valOrderWrong : ChangeSpec := { name := "valOrder", fn := fun _ => fun
  | [d1, d2, d3] => { results := [.lit (.bool false)], args := [d1, d2, d3] }
  | _ => none }
def ValOrderWrongFalsely : Prop := valOrderRow.holds Try.pinned (OpenSpec.ofChange valOrderWrong)

/- THE SECOND FORM. 'bulk': how many values and letters a reading holds, each counted each time it is reached (what is shared counts as often as it is met; a slice's spare places count too). A statement '..UptoSaid' is the law's where the arguments, and the package variables that the reading takes, are together of bulk at most 1048576: NARROWER than '..Said'. Prove '..Said' where nothing that the law and all that it calls make is longer than what came in: it says more and counts as full. Else prove '..UptoSaid'. A law counts once. -/
mutual
def uptoBulk {H : Type} : DataW H → Nat
  | .lit (.string bytes) => bytes.length + 1
  | .lit _ => 1
  | .nil => 1
  | .ptr d => uptoBulk d + 1
  | .slice elems spare => uptoBulkAll elems + uptoBulkAll spare + 1
  | .agg parts => uptoBulkAll parts + 1
  | .iface _ d => uptoBulk d + 1
  | .map entries => uptoBulkEntries entries + 1
  | .held _ => 1
def uptoBulkAll {H : Type} : List (DataW H) → Nat
  | [] => 0
  | d :: r => uptoBulk d + uptoBulkAll r
def uptoBulkEntries {H : Type} : List (Lit × DataW H) → Nat
  | [] => 0
  | x :: r => uptoBulkEntry x + uptoBulkEntries r
def uptoBulkEntry {H : Type} : Lit × DataW H → Nat
  | (.string bytes, d) => bytes.length + uptoBulk d + 1
  | (_, d) => uptoBulk d + 1
 end
def uptoSmall : (H : Type) → List (DataW H) → Bool := fun _ ds => decide (uptoBulkAll ds ≤ 1048576)
def OpenSpec.upto (s : _root_.Go.ChangeSpec) : _root_.Go.OpenSpec := { _root_.Go.OpenSpec.ofChange s with cond := some uptoSmall }

/-- 'hacklelaw12.ValTells', WHERE WHAT IT READS IS OF BULK AT MOST 1048576: true; the input reads as it did. -/
def valTellsUptoRow : OpenClaim := { program := "ytnngchpbblehfaa", sum := "3e5bf915111cd7102d2f58281f9bf97c680a0ea1303e971cf4b2b5d9cc10a6b1", func := "hackle/hacklelaw12.ValTells", spec := "valTells", apart := false, narrowed := true }
def ValTellsUptoSaid : Prop := valTellsUptoRow.holds Try.pinned (OpenSpec.upto valTellsSpec)

/-- 'hacklelaw12.ValMoves', WHERE WHAT IT READS IS OF BULK AT MOST 1048576: true; the input reads as it did. -/
def valMovesUptoRow : OpenClaim := { program := "ytnngchpbblehfaa", sum := "3e5bf915111cd7102d2f58281f9bf97c680a0ea1303e971cf4b2b5d9cc10a6b1", func := "hackle/hacklelaw12.ValMoves", spec := "valMoves", apart := false, narrowed := true }
def ValMovesUptoSaid : Prop := valMovesUptoRow.holds Try.pinned (OpenSpec.upto valMovesSpec)

/-- 'hacklelaw12.ValKinds', WHERE WHAT IT READS IS OF BULK AT MOST 1048576: true; the input reads as it did. -/
def valKindsUptoRow : OpenClaim := { program := "ytnngchpbblehfaa", sum := "3e5bf915111cd7102d2f58281f9bf97c680a0ea1303e971cf4b2b5d9cc10a6b1", func := "hackle/hacklelaw12.ValKinds", spec := "valKinds", apart := false, narrowed := true }
def ValKindsUptoSaid : Prop := valKindsUptoRow.holds Try.pinned (OpenSpec.upto valKindsSpec)

/-- 'hacklelaw12.ValTwo', WHERE WHAT IT READS IS OF BULK AT MOST 1048576: true; the input reads as it did. -/
def valTwoUptoRow : OpenClaim := { program := "ytnngchpbblehfaa", sum := "3e5bf915111cd7102d2f58281f9bf97c680a0ea1303e971cf4b2b5d9cc10a6b1", func := "hackle/hacklelaw12.ValTwo", spec := "valTwo", apart := false, narrowed := true }
def ValTwoUptoSaid : Prop := valTwoUptoRow.holds Try.pinned (OpenSpec.upto valTwoSpec)

/-- 'hacklelaw12.ValSound', WHERE WHAT IT READS IS OF BULK AT MOST 1048576: true; the input reads as it did. -/
def valSoundUptoRow : OpenClaim := { program := "ytnngchpbblehfaa", sum := "3e5bf915111cd7102d2f58281f9bf97c680a0ea1303e971cf4b2b5d9cc10a6b1", func := "hackle/hacklelaw12.ValSound", spec := "valSound", apart := false, narrowed := true }
def ValSoundUptoSaid : Prop := valSoundUptoRow.holds Try.pinned (OpenSpec.upto valSoundSpec)

/-- 'hacklelaw12.ValOrder', WHERE WHAT IT READS IS OF BULK AT MOST 1048576: true; the input reads as it did. -/
def valOrderUptoRow : OpenClaim := { program := "ytnngchpbblehfaa", sum := "3e5bf915111cd7102d2f58281f9bf97c680a0ea1303e971cf4b2b5d9cc10a6b1", func := "hackle/hacklelaw12.ValOrder", spec := "valOrder", apart := false, narrowed := true }
def ValOrderUptoSaid : Prop := valOrderUptoRow.holds Try.pinned (OpenSpec.upto valOrderSpec)

end Rows
end Go.Proofs.Ytnngchpbblehfaa
