/-
  No cell of these rows narrows 'for every input' (looked for: loops, veiled, ifaces, maps, wideKeys, modest, calm, conditions, laid).
  DERIVED. THE GIVEN ROWS OF THIS SEAT. 7 by the template 'for every input the law returns true; each argument reads behind the call as it read before'; 0 by the template 'total and deterministic' (their statements: YtbffiejpocjdmaaTotals.lean).
  GIVEN WITH THE SEED: the statements are not yours to turn. If you find one false, say at which input.
  Laid BY PROGRAM, IN A SANDBOX (cutbox-rows.mjs): the forced cells as the released guide's own fill.sh prints them over the translation f78c5dd512117a72… (all of the seat's roots in one cut). By AI agents, Wed Nov 11 2026. No macro, syntax, notation, axiom, sorry.
-/
import Derived.Test.YtbffiejpocjdmaaChecked
import GoSem.Claim
import GoSem.ClaimJoined
import GoSem.ClaimMapViews
import Derived.JoinedTies
import Derived.KernelRfl
namespace Go.Proofs.Ytbffiejpocjdmaa
/- THE CELL 'sum', in the pinned program and in every row, IS THE sha256 OF THE DUMP (.gsa) THAT YtbffiejpocjdmaaProg.lean LOADS. Nothing in Lean hashes anything: it is a label: what it is worth is what the hold of that sum in a sandbox is worth. -/
noncomputable def Try.pinned : Pinned := { name := "ytbffiejpocjdmaa", sum := "f78c5dd512117a725fea537089f3534e03b27919352190f48f81d4e6cf8d2e67", checked := Try.checked }
namespace Rows
def none {H : Type} : Left H := { results := [], args := [] }

/-- 'hacklelaw02.AluDoes': WHATEVER THE INPUT: true; the input reads as it did. -/
def aluDoesSpec : ChangeSpec := { name := "aluDoes", fn := fun _ => fun
  | [d1, d2, d3, d4, d5] => { results := [.lit (.bool true)], args := [d1, d2, d3, d4, d5] }
  | _ => none }
def aluDoesRow : OpenClaim := { program := "ytbffiejpocjdmaa", sum := "f78c5dd512117a725fea537089f3534e03b27919352190f48f81d4e6cf8d2e67", func := "hackle/hacklelaw02.AluDoes", spec := "aluDoes", apart := false }
def AluDoesSaid : Prop := aluDoesRow.holds Try.pinned (OpenSpec.ofChange aluDoesSpec)

/-- ITS FALSE NEIGHBOUR: 'it returns false'. Refute it at one input. -/
def aluDoesWrong : ChangeSpec := { name := "aluDoes", fn := fun _ => fun
  | [d1, d2, d3, d4, d5] => { results := [.lit (.bool false)], args := [d1, d2, d3, d4, d5] }
  | _ => none }
def AluDoesWrongFalsely : Prop := aluDoesRow.holds Try.pinned (OpenSpec.ofChange aluDoesWrong)

/-- 'hacklelaw02.AluLow': WHATEVER THE INPUT: true; the input reads as it did. -/
def aluLowSpec : ChangeSpec := { name := "aluLow", fn := fun _ => fun
  | [d1, d2, d3, d4, d5] => { results := [.lit (.bool true)], args := [d1, d2, d3, d4, d5] }
  | _ => none }
def aluLowRow : OpenClaim := { program := "ytbffiejpocjdmaa", sum := "f78c5dd512117a725fea537089f3534e03b27919352190f48f81d4e6cf8d2e67", func := "hackle/hacklelaw02.AluLow", spec := "aluLow", apart := false }
def AluLowSaid : Prop := aluLowRow.holds Try.pinned (OpenSpec.ofChange aluLowSpec)

/-- ITS FALSE NEIGHBOUR: 'it returns false'. Refute it at one input. -/
def aluLowWrong : ChangeSpec := { name := "aluLow", fn := fun _ => fun
  | [d1, d2, d3, d4, d5] => { results := [.lit (.bool false)], args := [d1, d2, d3, d4, d5] }
  | _ => none }
def AluLowWrongFalsely : Prop := aluLowRow.holds Try.pinned (OpenSpec.ofChange aluLowWrong)

/-- 'hacklelaw02.AluParts': WHATEVER THE INPUT: true; the input reads as it did. -/
def aluPartsSpec : ChangeSpec := { name := "aluParts", fn := fun _ => fun
  | [d1, d2, d3, d4] => { results := [.lit (.bool true)], args := [d1, d2, d3, d4] }
  | _ => none }
def aluPartsRow : OpenClaim := { program := "ytbffiejpocjdmaa", sum := "f78c5dd512117a725fea537089f3534e03b27919352190f48f81d4e6cf8d2e67", func := "hackle/hacklelaw02.AluParts", spec := "aluParts", apart := false }
def AluPartsSaid : Prop := aluPartsRow.holds Try.pinned (OpenSpec.ofChange aluPartsSpec)

/-- ITS FALSE NEIGHBOUR: 'it returns false'. Refute it at one input. -/
def aluPartsWrong : ChangeSpec := { name := "aluParts", fn := fun _ => fun
  | [d1, d2, d3, d4] => { results := [.lit (.bool false)], args := [d1, d2, d3, d4] }
  | _ => none }
def AluPartsWrongFalsely : Prop := aluPartsRow.holds Try.pinned (OpenSpec.ofChange aluPartsWrong)

/-- 'hacklelaw02.AluOrder': WHATEVER THE INPUT: true; the input reads as it did. -/
def aluOrderSpec : ChangeSpec := { name := "aluOrder", fn := fun _ => fun
  | [d1, d2, d3, d4, d5] => { results := [.lit (.bool true)], args := [d1, d2, d3, d4, d5] }
  | _ => none }
def aluOrderRow : OpenClaim := { program := "ytbffiejpocjdmaa", sum := "f78c5dd512117a725fea537089f3534e03b27919352190f48f81d4e6cf8d2e67", func := "hackle/hacklelaw02.AluOrder", spec := "aluOrder", apart := false }
def AluOrderSaid : Prop := aluOrderRow.holds Try.pinned (OpenSpec.ofChange aluOrderSpec)

/-- ITS FALSE NEIGHBOUR: 'it returns false'. Refute it at one input. -/
def aluOrderWrong : ChangeSpec := { name := "aluOrder", fn := fun _ => fun
  | [d1, d2, d3, d4, d5] => { results := [.lit (.bool false)], args := [d1, d2, d3, d4, d5] }
  | _ => none }
def AluOrderWrongFalsely : Prop := aluOrderRow.holds Try.pinned (OpenSpec.ofChange aluOrderWrong)

/-- 'hacklelaw02.AluMoves': WHATEVER THE INPUT: true; the input reads as it did. -/
def aluMovesSpec : ChangeSpec := { name := "aluMoves", fn := fun _ => fun
  | [d1, d2, d3] => { results := [.lit (.bool true)], args := [d1, d2, d3] }
  | _ => none }
def aluMovesRow : OpenClaim := { program := "ytbffiejpocjdmaa", sum := "f78c5dd512117a725fea537089f3534e03b27919352190f48f81d4e6cf8d2e67", func := "hackle/hacklelaw02.AluMoves", spec := "aluMoves", apart := false }
def AluMovesSaid : Prop := aluMovesRow.holds Try.pinned (OpenSpec.ofChange aluMovesSpec)

/-- ITS FALSE NEIGHBOUR: 'it returns false'. Refute it at one input. -/
def aluMovesWrong : ChangeSpec := { name := "aluMoves", fn := fun _ => fun
  | [d1, d2, d3] => { results := [.lit (.bool false)], args := [d1, d2, d3] }
  | _ => none }
def AluMovesWrongFalsely : Prop := aluMovesRow.holds Try.pinned (OpenSpec.ofChange aluMovesWrong)

/-- 'hacklelaw02.AluSwaps': WHATEVER THE INPUT: true; the input reads as it did. -/
def aluSwapsSpec : ChangeSpec := { name := "aluSwaps", fn := fun _ => fun
  | [d1, d2, d3] => { results := [.lit (.bool true)], args := [d1, d2, d3] }
  | _ => none }
def aluSwapsRow : OpenClaim := { program := "ytbffiejpocjdmaa", sum := "f78c5dd512117a725fea537089f3534e03b27919352190f48f81d4e6cf8d2e67", func := "hackle/hacklelaw02.AluSwaps", spec := "aluSwaps", apart := false }
def AluSwapsSaid : Prop := aluSwapsRow.holds Try.pinned (OpenSpec.ofChange aluSwapsSpec)

/-- ITS FALSE NEIGHBOUR: 'it returns false'. Refute it at one input. -/
def aluSwapsWrong : ChangeSpec := { name := "aluSwaps", fn := fun _ => fun
  | [d1, d2, d3] => { results := [.lit (.bool false)], args := [d1, d2, d3] }
  | _ => none }
def AluSwapsWrongFalsely : Prop := aluSwapsRow.holds Try.pinned (OpenSpec.ofChange aluSwapsWrong)

/-- 'hacklelaw02.AluTurns': WHATEVER THE INPUT: true; the input reads as it did. -/
def aluTurnsSpec : ChangeSpec := { name := "aluTurns", fn := fun _ => fun
  | [d1, d2, d3] => { results := [.lit (.bool true)], args := [d1, d2, d3] }
  | _ => none }
def aluTurnsRow : OpenClaim := { program := "ytbffiejpocjdmaa", sum := "f78c5dd512117a725fea537089f3534e03b27919352190f48f81d4e6cf8d2e67", func := "hackle/hacklelaw02.AluTurns", spec := "aluTurns", apart := false }
def AluTurnsSaid : Prop := aluTurnsRow.holds Try.pinned (OpenSpec.ofChange aluTurnsSpec)

/-- ITS FALSE NEIGHBOUR: 'it returns false'. Refute it at one input. -/
def aluTurnsWrong : ChangeSpec := { name := "aluTurns", fn := fun _ => fun
  | [d1, d2, d3] => { results := [.lit (.bool false)], args := [d1, d2, d3] }
  | _ => none }
def AluTurnsWrongFalsely : Prop := aluTurnsRow.holds Try.pinned (OpenSpec.ofChange aluTurnsWrong)

/- THE SECOND FORM. 'bulk': how many values and letters a reading holds, each counted each time it is reached (what is shared counts as often as it is met; a slice's spare places count too). A statement '..UptoSaid' is the law's where the arguments, and the package variables that the reading takes, are together of bulk at most 1048576: NARROWER than '..Said'. Prove '..Said' where nothing that the law and all that it calls make is longer than what came in: it says more and counts as full. Else prove '..UptoSaid'. A law counts once. -/
mutual
def uptoBulk {H : Type} : DataW H → Nat
  | .lit (.string bytes) => bytes.length + 1
  | .lit _ => 1
  | .nil => 1
  | .ptr d => uptoBulk d + 1
  | .slice elems spare => uptoBulkAll elems + uptoBulkAll spare + 1
  | .agg parts => uptoBulkAll parts + 1
  | .iface _ d => uptoBulk d + 1
  | .map entries => uptoBulkEntries entries + 1
  | .held _ => 1
def uptoBulkAll {H : Type} : List (DataW H) → Nat
  | [] => 0
  | d :: r => uptoBulk d + uptoBulkAll r
def uptoBulkEntries {H : Type} : List (Lit × DataW H) → Nat
  | [] => 0
  | x :: r => uptoBulkEntry x + uptoBulkEntries r
def uptoBulkEntry {H : Type} : Lit × DataW H → Nat
  | (.string bytes, d) => bytes.length + uptoBulk d + 1
  | (_, d) => uptoBulk d + 1
 end
def uptoSmall : (H : Type) → List (DataW H) → Bool := fun _ ds => decide (uptoBulkAll ds ≤ 1048576)
def OpenSpec.upto (s : _root_.Go.ChangeSpec) : _root_.Go.OpenSpec := { _root_.Go.OpenSpec.ofChange s with cond := some uptoSmall }

/-- 'hacklelaw02.AluDoes', WHERE WHAT IT READS IS OF BULK AT MOST 1048576: true; the input reads as it did. -/
def aluDoesUptoRow : OpenClaim := { program := "ytbffiejpocjdmaa", sum := "f78c5dd512117a725fea537089f3534e03b27919352190f48f81d4e6cf8d2e67", func := "hackle/hacklelaw02.AluDoes", spec := "aluDoes", apart := false, narrowed := true }
def AluDoesUptoSaid : Prop := aluDoesUptoRow.holds Try.pinned (OpenSpec.upto aluDoesSpec)

/-- 'hacklelaw02.AluLow', WHERE WHAT IT READS IS OF BULK AT MOST 1048576: true; the input reads as it did. -/
def aluLowUptoRow : OpenClaim := { program := "ytbffiejpocjdmaa", sum := "f78c5dd512117a725fea537089f3534e03b27919352190f48f81d4e6cf8d2e67", func := "hackle/hacklelaw02.AluLow", spec := "aluLow", apart := false, narrowed := true }
def AluLowUptoSaid : Prop := aluLowUptoRow.holds Try.pinned (OpenSpec.upto aluLowSpec)

/-- 'hacklelaw02.AluParts', WHERE WHAT IT READS IS OF BULK AT MOST 1048576: true; the input reads as it did. -/
def aluPartsUptoRow : OpenClaim := { program := "ytbffiejpocjdmaa", sum := "f78c5dd512117a725fea537089f3534e03b27919352190f48f81d4e6cf8d2e67", func := "hackle/hacklelaw02.AluParts", spec := "aluParts", apart := false, narrowed := true }
def AluPartsUptoSaid : Prop := aluPartsUptoRow.holds Try.pinned (OpenSpec.upto aluPartsSpec)

/-- 'hacklelaw02.AluOrder', WHERE WHAT IT READS IS OF BULK AT MOST 1048576: true; the input reads as it did. -/
def aluOrderUptoRow : OpenClaim := { program := "ytbffiejpocjdmaa", sum := "f78c5dd512117a725fea537089f3534e03b27919352190f48f81d4e6cf8d2e67", func := "hackle/hacklelaw02.AluOrder", spec := "aluOrder", apart := false, narrowed := true }
def AluOrderUptoSaid : Prop := aluOrderUptoRow.holds Try.pinned (OpenSpec.upto aluOrderSpec)

/-- 'hacklelaw02.AluMoves', WHERE WHAT IT READS IS OF BULK AT MOST 1048576: true; the input reads as it did. -/
def aluMovesUptoRow : OpenClaim := { program := "ytbffiejpocjdmaa", sum := "f78c5dd512117a725fea537089f3534e03b27919352190f48f81d4e6cf8d2e67", func := "hackle/hacklelaw02.AluMoves", spec := "aluMoves", apart := false, narrowed := true }
def AluMovesUptoSaid : Prop := aluMovesUptoRow.holds Try.pinned (OpenSpec.upto aluMovesSpec)

/-- 'hacklelaw02.AluSwaps', WHERE WHAT IT READS IS OF BULK AT MOST 1048576: true; the input reads as it did. -/
def aluSwapsUptoRow : OpenClaim := { program := "ytbffiejpocjdmaa", sum := "f78c5dd512117a725fea537089f3534e03b27919352190f48f81d4e6cf8d2e67", func := "hackle/hacklelaw02.AluSwaps", spec := "aluSwaps", apart := false, narrowed := true }
def AluSwapsUptoSaid : Prop := aluSwapsUptoRow.holds Try.pinned (OpenSpec.upto aluSwapsSpec)

/-- 'hacklelaw02.AluTurns', WHERE WHAT IT READS IS OF BULK AT MOST 1048576: true; the input reads as it did. -/
def aluTurnsUptoRow : OpenClaim := { program := "ytbffiejpocjdmaa", sum := "f78c5dd512117a725fea537089f3534e03b27919352190f48f81d4e6cf8d2e67", func := "hackle/hacklelaw02.AluTurns", spec := "aluTurns", apart := false, narrowed := true }
def AluTurnsUptoSaid : Prop := aluTurnsUptoRow.holds Try.pinned (OpenSpec.upto aluTurnsSpec)

end Rows
end Go.Proofs.Ytbffiejpocjdmaa
