/-
  No cell of these rows narrows 'for every input' (looked for: loops, veiled, ifaces, maps, wideKeys, modest, calm, conditions, laid).
  DERIVED. THE GIVEN ROWS OF THIS SEAT. 7 by the template 'for every input the law returns true; each argument reads behind the call as it read before'; 0 by the template 'total and deterministic' (their statements: YtjeanjbjngbfcaaTotals.lean).
  GIVEN WITH THE SEED: the statements are not yours to turn. If you find one false, say at which input.
  Laid BY PROGRAM, IN A SANDBOX (cutbox-rows.mjs): the forced cells as the released guide's own fill.sh prints them over the translation 909b75965099fc59… (all of the seat's roots in one cut). By AI agents, Wed Nov 11 2026. No macro, syntax, notation, axiom, sorry.
-/
import Derived.Test.YtjeanjbjngbfcaaChecked
import GoSem.Claim
import GoSem.ClaimJoined
import GoSem.ClaimMapViews
import Derived.JoinedTies
import Derived.KernelRfl
namespace Go.Proofs.Ytjeanjbjngbfcaa
/- THE CELL 'sum', in the pinned program and in every row, IS THE sha256 OF THE DUMP (.gsa) THAT YtjeanjbjngbfcaaProg.lean LOADS. Nothing in Lean hashes anything: it is a label: what it is worth is what the hold of that sum in a sandbox is worth. -/
noncomputable def Try.pinned : Pinned := { name := "ytjeanjbjngbfcaa", sum := "909b75965099fc599b36fb4d6e65fa3abef3cf41e99b31d60f7160b4276d8dbc", checked := Try.checked }
namespace Rows
def none {H : Type} : Left H := { results := [], args := [] }

/-- 'hacklelaw13.StateSets': WHATEVER THE INPUT: true; the input reads as it did. -/
def stateSetsSpec : ChangeSpec := { name := "stateSets", fn := fun _ => fun
  | [d1, d2, d3] => { results := [.lit (.bool true)], args := [d1, d2, d3] }
  | _ => none }
def stateSetsRow : OpenClaim := { program := "ytjeanjbjngbfcaa", sum := "909b75965099fc599b36fb4d6e65fa3abef3cf41e99b31d60f7160b4276d8dbc", func := "hackle/hacklelaw13.StateSets", spec := "stateSets", apart := false }
def StateSetsSaid : Prop := stateSetsRow.holds Try.pinned (OpenSpec.ofChange stateSetsSpec)

/-- ITS FALSE NEIGHBOUR: 'it returns false'. Refute it at one input. -/
def stateSetsWrong : ChangeSpec := { name := "stateSets", fn := fun _ => fun
  | [d1, d2, d3] => { results := [.lit (.bool false)], args := [d1, d2, d3] }
  | _ => none }
def StateSetsWrongFalsely : Prop := stateSetsRow.holds Try.pinned (OpenSpec.ofChange stateSetsWrong)

/-- 'hacklelaw13.StateBack': WHATEVER THE INPUT: true; the input reads as it did. -/
def stateBackSpec : ChangeSpec := { name := "stateBack", fn := fun _ => fun
  | [d1, d2] => { results := [.lit (.bool true)], args := [d1, d2] }
  | _ => none }
def stateBackRow : OpenClaim := { program := "ytjeanjbjngbfcaa", sum := "909b75965099fc599b36fb4d6e65fa3abef3cf41e99b31d60f7160b4276d8dbc", func := "hackle/hacklelaw13.StateBack", spec := "stateBack", apart := false }
def StateBackSaid : Prop := stateBackRow.holds Try.pinned (OpenSpec.ofChange stateBackSpec)

/-- ITS FALSE NEIGHBOUR: 'it returns false'. Refute it at one input. -/
def stateBackWrong : ChangeSpec := { name := "stateBack", fn := fun _ => fun
  | [d1, d2] => { results := [.lit (.bool false)], args := [d1, d2] }
  | _ => none }
def StateBackWrongFalsely : Prop := stateBackRow.holds Try.pinned (OpenSpec.ofChange stateBackWrong)

/-- 'hacklelaw13.StateParts': WHATEVER THE INPUT: true; the input reads as it did. -/
def statePartsSpec : ChangeSpec := { name := "stateParts", fn := fun _ => fun
  | [d1, d2, d3, d4] => { results := [.lit (.bool true)], args := [d1, d2, d3, d4] }
  | _ => none }
def statePartsRow : OpenClaim := { program := "ytjeanjbjngbfcaa", sum := "909b75965099fc599b36fb4d6e65fa3abef3cf41e99b31d60f7160b4276d8dbc", func := "hackle/hacklelaw13.StateParts", spec := "stateParts", apart := false }
def StatePartsSaid : Prop := statePartsRow.holds Try.pinned (OpenSpec.ofChange statePartsSpec)

/-- ITS FALSE NEIGHBOUR: 'it returns false'. Refute it at one input. -/
def statePartsWrong : ChangeSpec := { name := "stateParts", fn := fun _ => fun
  | [d1, d2, d3, d4] => { results := [.lit (.bool false)], args := [d1, d2, d3, d4] }
  | _ => none }
def StatePartsWrongFalsely : Prop := statePartsRow.holds Try.pinned (OpenSpec.ofChange statePartsWrong)

/-- 'hacklelaw13.StatePlays': WHATEVER THE INPUT: true; the input reads as it did. -/
def statePlaysSpec : ChangeSpec := { name := "statePlays", fn := fun _ => fun
  | [d1, d2, d3] => { results := [.lit (.bool true)], args := [d1, d2, d3] }
  | _ => none }
def statePlaysRow : OpenClaim := { program := "ytjeanjbjngbfcaa", sum := "909b75965099fc599b36fb4d6e65fa3abef3cf41e99b31d60f7160b4276d8dbc", func := "hackle/hacklelaw13.StatePlays", spec := "statePlays", apart := false }
def StatePlaysSaid : Prop := statePlaysRow.holds Try.pinned (OpenSpec.ofChange statePlaysSpec)

/-- ITS FALSE NEIGHBOUR: 'it returns false'. Refute it at one input. -/
def statePlaysWrong : ChangeSpec := { name := "statePlays", fn := fun _ => fun
  | [d1, d2, d3] => { results := [.lit (.bool false)], args := [d1, d2, d3] }
  | _ => none }
def StatePlaysWrongFalsely : Prop := statePlaysRow.holds Try.pinned (OpenSpec.ofChange statePlaysWrong)

/-- 'hacklelaw13.StateRaw': WHATEVER THE INPUT: true; the input reads as it did. -/
def stateRawSpec : ChangeSpec := { name := "stateRaw", fn := fun _ => fun
  | [d1, d2] => { results := [.lit (.bool true)], args := [d1, d2] }
  | _ => none }
def stateRawRow : OpenClaim := { program := "ytjeanjbjngbfcaa", sum := "909b75965099fc599b36fb4d6e65fa3abef3cf41e99b31d60f7160b4276d8dbc", func := "hackle/hacklelaw13.StateRaw", spec := "stateRaw", apart := false }
def StateRawSaid : Prop := stateRawRow.holds Try.pinned (OpenSpec.ofChange stateRawSpec)

/-- ITS FALSE NEIGHBOUR: 'it returns false'. Refute it at one input. -/
def stateRawWrong : ChangeSpec := { name := "stateRaw", fn := fun _ => fun
  | [d1, d2] => { results := [.lit (.bool false)], args := [d1, d2] }
  | _ => none }
def StateRawWrongFalsely : Prop := stateRawRow.holds Try.pinned (OpenSpec.ofChange stateRawWrong)

/-- 'hacklelaw13.StateTells': WHATEVER THE INPUT: true; the input reads as it did. -/
def stateTellsSpec : ChangeSpec := { name := "stateTells", fn := fun _ => fun
  | [d1, d2] => { results := [.lit (.bool true)], args := [d1, d2] }
  | _ => none }
def stateTellsRow : OpenClaim := { program := "ytjeanjbjngbfcaa", sum := "909b75965099fc599b36fb4d6e65fa3abef3cf41e99b31d60f7160b4276d8dbc", func := "hackle/hacklelaw13.StateTells", spec := "stateTells", apart := false }
def StateTellsSaid : Prop := stateTellsRow.holds Try.pinned (OpenSpec.ofChange stateTellsSpec)

/-- ITS FALSE NEIGHBOUR: 'it returns false'. Refute it at one input. -/
def stateTellsWrong : ChangeSpec := { name := "stateTells", fn := fun _ => fun
  | [d1, d2] => { results := [.lit (.bool false)], args := [d1, d2] }
  | _ => none }
def StateTellsWrongFalsely : Prop := stateTellsRow.holds Try.pinned (OpenSpec.ofChange stateTellsWrong)

/-- 'hacklelaw13.StateFirst': WHATEVER THE INPUT: true; the input reads as it did. -/
def stateFirstSpec : ChangeSpec := { name := "stateFirst", fn := fun _ => fun
  | [d1, d2, d3] => { results := [.lit (.bool true)], args := [d1, d2, d3] }
  | _ => none }
def stateFirstRow : OpenClaim := { program := "ytjeanjbjngbfcaa", sum := "909b75965099fc599b36fb4d6e65fa3abef3cf41e99b31d60f7160b4276d8dbc", func := "hackle/hacklelaw13.StateFirst", spec := "stateFirst", apart := false }
def StateFirstSaid : Prop := stateFirstRow.holds Try.pinned (OpenSpec.ofChange stateFirstSpec)

/-- ITS FALSE NEIGHBOUR: 'it returns false'. Refute it at one input. -/
def stateFirstWrong : ChangeSpec := { name := "stateFirst", fn := fun _ => fun
  | [d1, d2, d3] => { results := [.lit (.bool false)], args := [d1, d2, d3] }
  | _ => none }
def StateFirstWrongFalsely : Prop := stateFirstRow.holds Try.pinned (OpenSpec.ofChange stateFirstWrong)

/- THE SECOND FORM. 'bulk': how many values and letters a reading holds, each counted each time it is reached (what is shared counts as often as it is met; a slice's spare places count too). A statement '..UptoSaid' is the law's where the arguments, and the package variables that the reading takes, are together of bulk at most 1048576: NARROWER than '..Said'. Prove '..Said' where nothing that the law and all that it calls make is longer than what came in: it says more and counts as full. Else prove '..UptoSaid'. A law counts once. -/
mutual
def uptoBulk {H : Type} : DataW H → Nat
  | .lit (.string bytes) => bytes.length + 1
  | .lit _ => 1
  | .nil => 1
  | .ptr d => uptoBulk d + 1
  | .slice elems spare => uptoBulkAll elems + uptoBulkAll spare + 1
  | .agg parts => uptoBulkAll parts + 1
  | .iface _ d => uptoBulk d + 1
  | .map entries => uptoBulkEntries entries + 1
  | .held _ => 1
def uptoBulkAll {H : Type} : List (DataW H) → Nat
  | [] => 0
  | d :: r => uptoBulk d + uptoBulkAll r
def uptoBulkEntries {H : Type} : List (Lit × DataW H) → Nat
  | [] => 0
  | x :: r => uptoBulkEntry x + uptoBulkEntries r
def uptoBulkEntry {H : Type} : Lit × DataW H → Nat
  | (.string bytes, d) => bytes.length + uptoBulk d + 1
  | (_, d) => uptoBulk d + 1
 end
def uptoSmall : (H : Type) → List (DataW H) → Bool := fun _ ds => decide (uptoBulkAll ds ≤ 1048576)
def OpenSpec.upto (s : _root_.Go.ChangeSpec) : _root_.Go.OpenSpec := { _root_.Go.OpenSpec.ofChange s with cond := some uptoSmall }

/-- 'hacklelaw13.StateSets', WHERE WHAT IT READS IS OF BULK AT MOST 1048576: true; the input reads as it did. -/
def stateSetsUptoRow : OpenClaim := { program := "ytjeanjbjngbfcaa", sum := "909b75965099fc599b36fb4d6e65fa3abef3cf41e99b31d60f7160b4276d8dbc", func := "hackle/hacklelaw13.StateSets", spec := "stateSets", apart := false, narrowed := true }
def StateSetsUptoSaid : Prop := stateSetsUptoRow.holds Try.pinned (OpenSpec.upto stateSetsSpec)

/-- 'hacklelaw13.StateBack', WHERE WHAT IT READS IS OF BULK AT MOST 1048576: true; the input reads as it did. -/
def stateBackUptoRow : OpenClaim := { program := "ytjeanjbjngbfcaa", sum := "909b75965099fc599b36fb4d6e65fa3abef3cf41e99b31d60f7160b4276d8dbc", func := "hackle/hacklelaw13.StateBack", spec := "stateBack", apart := false, narrowed := true }
def StateBackUptoSaid : Prop := stateBackUptoRow.holds Try.pinned (OpenSpec.upto stateBackSpec)

/-- 'hacklelaw13.StateParts', WHERE WHAT IT READS IS OF BULK AT MOST 1048576: true; the input reads as it did. -/
def statePartsUptoRow : OpenClaim := { program := "ytjeanjbjngbfcaa", sum := "909b75965099fc599b36fb4d6e65fa3abef3cf41e99b31d60f7160b4276d8dbc", func := "hackle/hacklelaw13.StateParts", spec := "stateParts", apart := false, narrowed := true }
def StatePartsUptoSaid : Prop := statePartsUptoRow.holds Try.pinned (OpenSpec.upto statePartsSpec)

/-- 'hacklelaw13.StatePlays', WHERE WHAT IT READS IS OF BULK AT MOST 1048576: true; the input reads as it did. -/
def statePlaysUptoRow : OpenClaim := { program := "ytjeanjbjngbfcaa", sum := "909b75965099fc599b36fb4d6e65fa3abef3cf41e99b31d60f7160b4276d8dbc", func := "hackle/hacklelaw13.StatePlays", spec := "statePlays", apart := false, narrowed := true }
def StatePlaysUptoSaid : Prop := statePlaysUptoRow.holds Try.pinned (OpenSpec.upto statePlaysSpec)

/-- 'hacklelaw13.StateRaw', WHERE WHAT IT READS IS OF BULK AT MOST 1048576: true; the input reads as it did. -/
def stateRawUptoRow : OpenClaim := { program := "ytjeanjbjngbfcaa", sum := "909b75965099fc599b36fb4d6e65fa3abef3cf41e99b31d60f7160b4276d8dbc", func := "hackle/hacklelaw13.StateRaw", spec := "stateRaw", apart := false, narrowed := true }
def StateRawUptoSaid : Prop := stateRawUptoRow.holds Try.pinned (OpenSpec.upto stateRawSpec)

/-- 'hacklelaw13.StateTells', WHERE WHAT IT READS IS OF BULK AT MOST 1048576: true; the input reads as it did. -/
def stateTellsUptoRow : OpenClaim := { program := "ytjeanjbjngbfcaa", sum := "909b75965099fc599b36fb4d6e65fa3abef3cf41e99b31d60f7160b4276d8dbc", func := "hackle/hacklelaw13.StateTells", spec := "stateTells", apart := false, narrowed := true }
def StateTellsUptoSaid : Prop := stateTellsUptoRow.holds Try.pinned (OpenSpec.upto stateTellsSpec)

/-- 'hacklelaw13.StateFirst', WHERE WHAT IT READS IS OF BULK AT MOST 1048576: true; the input reads as it did. -/
def stateFirstUptoRow : OpenClaim := { program := "ytjeanjbjngbfcaa", sum := "909b75965099fc599b36fb4d6e65fa3abef3cf41e99b31d60f7160b4276d8dbc", func := "hackle/hacklelaw13.StateFirst", spec := "stateFirst", apart := false, narrowed := true }
def StateFirstUptoSaid : Prop := stateFirstUptoRow.holds Try.pinned (OpenSpec.upto stateFirstSpec)

end Rows
end Go.Proofs.Ytjeanjbjngbfcaa
