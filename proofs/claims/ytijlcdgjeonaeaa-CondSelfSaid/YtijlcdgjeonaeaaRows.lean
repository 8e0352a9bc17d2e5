/-
  No cell of these rows narrows 'for every input' (looked for: loops, veiled, ifaces, maps, wideKeys, modest, calm, conditions, laid).
  DERIVED. THE GIVEN ROWS OF THIS SEAT. 6 by the template 'for every input the law returns true; each argument reads behind the call as it read before'; 0 by the template 'total and deterministic' (their statements: YtijlcdgjeonaeaaTotals.lean).
  GIVEN WITH THE SEED: the statements are not yours to turn. If you find one false, say at which input.
  Laid BY PROGRAM, IN A SANDBOX (cutbox-rows.mjs): the forced cells as the released guide's own fill.sh prints them over the translation f66fab3773a8c91a… (all of the seat's roots in one cut). By AI agents, Wed Nov 11 2026. No macro, syntax, notation, axiom, sorry.
-/
import Derived.Test.YtijlcdgjeonaeaaChecked
import GoSem.Claim
import GoSem.ClaimJoined
import GoSem.ClaimMapViews
import Derived.JoinedTies
import Derived.KernelRfl
namespace Go.Proofs.Ytijlcdgjeonaeaa
/- THE CELL 'sum', in the pinned program and in every row, IS THE sha256 OF THE DUMP (.gsa) THAT YtijlcdgjeonaeaaProg.lean LOADS. Nothing in Lean hashes anything: it is a label: what it is worth is what the hold of that sum in a sandbox is worth. -/
noncomputable def Try.pinned : Pinned := { name := "ytijlcdgjeonaeaa", sum := "f66fab3773a8c91a11f93a924a8fc41a64661d5b4dd34426605d2e9096189be4", checked := Try.checked }
namespace Rows
def none {H : Type} : Left H := { results := [], args := [] }

/-- 'hacklelaw03.CondIs': WHATEVER THE INPUT: true; the input reads as it did. -/
def condIsSpec : ChangeSpec := { name := "condIs", fn := fun _ => fun
  | [d1, d2, d3, d4] => { results := [.lit (.bool true)], args := [d1, d2, d3, d4] }
  | _ => none }
def condIsRow : OpenClaim := { program := "ytijlcdgjeonaeaa", sum := "f66fab3773a8c91a11f93a924a8fc41a64661d5b4dd34426605d2e9096189be4", func := "hackle/hacklelaw03.CondIs", spec := "condIs", apart := false }
def CondIsSaid : Prop := condIsRow.holds Try.pinned (OpenSpec.ofChange condIsSpec)

/-- ITS FALSE NEIGHBOUR: 'it returns false'. Refute it at one input. -/
def condIsWrong : ChangeSpec := { name := "condIs", fn := fun _ => fun
  | [d1, d2, d3, d4] => { results := [.lit (.bool false)], args := [d1, d2, d3, d4] }
  | _ => none }
def CondIsWrongFalsely : Prop := condIsRow.holds Try.pinned (OpenSpec.ofChange condIsWrong)

/-- 'hacklelaw03.CondOne': WHATEVER THE INPUT: true; the input reads as it did. -/
def condOneSpec : ChangeSpec := { name := "condOne", fn := fun _ => fun
  | [d1, d2, d3] => { results := [.lit (.bool true)], args := [d1, d2, d3] }
  | _ => none }
def condOneRow : OpenClaim := { program := "ytijlcdgjeonaeaa", sum := "f66fab3773a8c91a11f93a924a8fc41a64661d5b4dd34426605d2e9096189be4", func := "hackle/hacklelaw03.CondOne", spec := "condOne", apart := false }
def CondOneSaid : Prop := condOneRow.holds Try.pinned (OpenSpec.ofChange condOneSpec)

/-- ITS FALSE NEIGHBOUR: 'it returns false'. Refute it at one input. -/
def condOneWrong : ChangeSpec := { name := "condOne", fn := fun _ => fun
  | [d1, d2, d3] => { results := [.lit (.bool false)], args := [d1, d2, d3] }
  | _ => none }
def CondOneWrongFalsely : Prop := condOneRow.holds Try.pinned (OpenSpec.ofChange condOneWrong)

/-- 'hacklelaw03.CondThree': WHATEVER THE INPUT: true; the input reads as it did. -/
def condThreeSpec : ChangeSpec := { name := "condThree", fn := fun _ => fun
  | [d1, d2, d3, d4, d5] => { results := [.lit (.bool true)], args := [d1, d2, d3, d4, d5] }
  | _ => none }
def condThreeRow : OpenClaim := { program := "ytijlcdgjeonaeaa", sum := "f66fab3773a8c91a11f93a924a8fc41a64661d5b4dd34426605d2e9096189be4", func := "hackle/hacklelaw03.CondThree", spec := "condThree", apart := false }
def CondThreeSaid : Prop := condThreeRow.holds Try.pinned (OpenSpec.ofChange condThreeSpec)

/-- ITS FALSE NEIGHBOUR: 'it returns false'. Refute it at one input. -/
def condThreeWrong : ChangeSpec := { name := "condThree", fn := fun _ => fun
  | [d1, d2, d3, d4, d5] => { results := [.lit (.bool false)], args := [d1, d2, d3, d4, d5] }
  | _ => none }
def CondThreeWrongFalsely : Prop := condThreeRow.holds Try.pinned (OpenSpec.ofChange condThreeWrong)

/-- 'hacklelaw03.CondSelf': WHATEVER THE INPUT: true; the input reads as it did. -/
def condSelfSpec : ChangeSpec := { name := "condSelf", fn := fun _ => fun
  | [d1, d2] => { results := [.lit (.bool true)], args := [d1, d2] }
  | _ => none }
def condSelfRow : OpenClaim := { program := "ytijlcdgjeonaeaa", sum := "f66fab3773a8c91a11f93a924a8fc41a64661d5b4dd34426605d2e9096189be4", func := "hackle/hacklelaw03.CondSelf", spec := "condSelf", apart := false }
def CondSelfSaid : Prop := condSelfRow.holds Try.pinned (OpenSpec.ofChange condSelfSpec)

/-- ITS FALSE NEIGHBOUR: 'it returns false'. Refute it at one input. -/
def condSelfWrong : ChangeSpec := { name := "condSelf", fn := fun _ => fun
  | [d1, d2] => { results := [.lit (.bool false)], args := [d1, d2] }
  | _ => none }
def CondSelfWrongFalsely : Prop := condSelfRow.holds Try.pinned (OpenSpec.ofChange condSelfWrong)

/-- 'hacklelaw03.CondLow': WHATEVER THE INPUT: true; the input reads as it did. -/
def condLowSpec : ChangeSpec := { name := "condLow", fn := fun _ => fun
  | [d1, d2, d3, d4] => { results := [.lit (.bool true)], args := [d1, d2, d3, d4] }
  | _ => none }
def condLowRow : OpenClaim := { program := "ytijlcdgjeonaeaa", sum := "f66fab3773a8c91a11f93a924a8fc41a64661d5b4dd34426605d2e9096189be4", func := "hackle/hacklelaw03.CondLow", spec := "condLow", apart := false }
def CondLowSaid : Prop := condLowRow.holds Try.pinned (OpenSpec.ofChange condLowSpec)

/-- ITS FALSE NEIGHBOUR: 'it returns false'. Refute it at one input. -/
def condLowWrong : ChangeSpec := { name := "condLow", fn := fun _ => fun
  | [d1, d2, d3, d4] => { results := [.lit (.bool false)], args := [d1, d2, d3, d4] }
  | _ => none }
def CondLowWrongFalsely : Prop := condLowRow.holds Try.pinned (OpenSpec.ofChange condLowWrong)

/-- 'hacklelaw03.CondNot': WHATEVER THE INPUT: true; the input reads as it did. -/
def condNotSpec : ChangeSpec := { name := "condNot", fn := fun _ => fun
  | [d1, d2, d3, d4] => { results := [.lit (.bool true)], args := [d1, d2, d3, d4] }
  | _ => none }
def condNotRow : OpenClaim := { program := "ytijlcdgjeonaeaa", sum := "f66fab3773a8c91a11f93a924a8fc41a64661d5b4dd34426605d2e9096189be4", func := "hackle/hacklelaw03.CondNot", spec := "condNot", apart := false }
def CondNotSaid : Prop := condNotRow.holds Try.pinned (OpenSpec.ofChange condNotSpec)

/-- ITS FALSE NEIGHBOUR: 'it returns false'. Refute it at one input. -/
def condNotWrong : ChangeSpec := { name := "condNot", fn := fun _ => fun
  | [d1, d2, d3, d4] => { results := [.lit (.bool false)], args := [d1, d2, d3, d4] }
  | _ => none }
def CondNotWrongFalsely : Prop := condNotRow.holds Try.pinned (OpenSpec.ofChange condNotWrong)

/- THE SECOND FORM. 'bulk': how many values and letters a reading holds, each counted each time it is reached (what is shared counts as often as it is met; a slice's spare places count too). A statement '..UptoSaid' is the law's where the arguments, and the package variables that the reading takes, are together of bulk at most 1048576: NARROWER than '..Said'. Prove '..Said' where nothing that the law and all that it calls make is longer than what came in: it says more and counts as full. Else prove '..UptoSaid'. A law counts once. -/
mutual
def uptoBulk {H : Type} : DataW H → Nat
  | .lit (.string bytes) => bytes.length + 1
  | .lit _ => 1
  | .nil => 1
  | .ptr d => uptoBulk d + 1
  | .slice elems spare => uptoBulkAll elems + uptoBulkAll spare + 1
  | .agg parts => uptoBulkAll parts + 1
  | .iface _ d => uptoBulk d + 1
  | .map entries => uptoBulkEntries entries + 1
  | .held _ => 1
def uptoBulkAll {H : Type} : List (DataW H) → Nat
  | [] => 0
  | d :: r => uptoBulk d + uptoBulkAll r
def uptoBulkEntries {H : Type} : List (Lit × DataW H) → Nat
  | [] => 0
  | x :: r => uptoBulkEntry x + uptoBulkEntries r
def uptoBulkEntry {H : Type} : Lit × DataW H → Nat
  | (.string bytes, d) => bytes.length + uptoBulk d + 1
  | (_, d) => uptoBulk d + 1
 end
def uptoSmall : (H : Type) → List (DataW H) → Bool := fun _ ds => decide (uptoBulkAll ds ≤ 1048576)
def OpenSpec.upto (s : _root_.Go.ChangeSpec) : _root_.Go.OpenSpec := { _root_.Go.OpenSpec.ofChange s with cond := some uptoSmall }

/-- 'hacklelaw03.CondIs', WHERE WHAT IT READS IS OF BULK AT MOST 1048576: true; the input reads as it did. -/
def condIsUptoRow : OpenClaim := { program := "ytijlcdgjeonaeaa", sum := "f66fab3773a8c91a11f93a924a8fc41a64661d5b4dd34426605d2e9096189be4", func := "hackle/hacklelaw03.CondIs", spec := "condIs", apart := false, narrowed := true }
def CondIsUptoSaid : Prop := condIsUptoRow.holds Try.pinned (OpenSpec.upto condIsSpec)

/-- 'hacklelaw03.CondOne', WHERE WHAT IT READS IS OF BULK AT MOST 1048576: true; the input reads as it did. -/
def condOneUptoRow : OpenClaim := { program := "ytijlcdgjeonaeaa", sum := "f66fab3773a8c91a11f93a924a8fc41a64661d5b4dd34426605d2e9096189be4", func := "hackle/hacklelaw03.CondOne", spec := "condOne", apart := false, narrowed := true }
def CondOneUptoSaid : Prop := condOneUptoRow.holds Try.pinned (OpenSpec.upto condOneSpec)

/-- 'hacklelaw03.CondThree', WHERE WHAT IT READS IS OF BULK AT MOST 1048576: true; the input reads as it did. -/
def condThreeUptoRow : OpenClaim := { program := "ytijlcdgjeonaeaa", sum := "f66fab3773a8c91a11f93a924a8fc41a64661d5b4dd34426605d2e9096189be4", func := "hackle/hacklelaw03.CondThree", spec := "condThree", apart := false, narrowed := true }
def CondThreeUptoSaid : Prop := condThreeUptoRow.holds Try.pinned (OpenSpec.upto condThreeSpec)

/-- 'hacklelaw03.CondSelf', WHERE WHAT IT READS IS OF BULK AT MOST 1048576: true; the input reads as it did. -/
def condSelfUptoRow : OpenClaim := { program := "ytijlcdgjeonaeaa", sum := "f66fab3773a8c91a11f93a924a8fc41a64661d5b4dd34426605d2e9096189be4", func := "hackle/hacklelaw03.CondSelf", spec := "condSelf", apart := false, narrowed := true }
def CondSelfUptoSaid : Prop := condSelfUptoRow.holds Try.pinned (OpenSpec.upto condSelfSpec)

/-- 'hacklelaw03.CondLow', WHERE WHAT IT READS IS OF BULK AT MOST 1048576: true; the input reads as it did. -/
def condLowUptoRow : OpenClaim := { program := "ytijlcdgjeonaeaa", sum := "f66fab3773a8c91a11f93a924a8fc41a64661d5b4dd34426605d2e9096189be4", func := "hackle/hacklelaw03.CondLow", spec := "condLow", apart := false, narrowed := true }
def CondLowUptoSaid : Prop := condLowUptoRow.holds Try.pinned (OpenSpec.upto condLowSpec)

/-- 'hacklelaw03.CondNot', WHERE WHAT IT READS IS OF BULK AT MOST 1048576: true; the input reads as it did. -/
def condNotUptoRow : OpenClaim := { program := "ytijlcdgjeonaeaa", sum := "f66fab3773a8c91a11f93a924a8fc41a64661d5b4dd34426605d2e9096189be4", func := "hackle/hacklelaw03.CondNot", spec := "condNot", apart := false, narrowed := true }
def CondNotUptoSaid : Prop := condNotUptoRow.holds Try.pinned (OpenSpec.upto condNotSpec)

end Rows
end Go.Proofs.Ytijlcdgjeonaeaa
