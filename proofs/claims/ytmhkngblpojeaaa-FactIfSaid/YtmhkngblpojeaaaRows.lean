/-
  No cell of these rows narrows 'for every input' (looked for: loops, veiled, ifaces, maps, wideKeys, modest, calm, conditions, laid).
  DERIVED. THE GIVEN ROWS OF THIS SEAT. 9 by the template 'for every input the law returns true; each argument reads behind the call as it read before'; 0 by the template 'total and deterministic' (their statements: YtmhkngblpojeaaaTotals.lean).
  GIVEN WITH THE SEED: the statements are not yours to turn. If you find one false, say at which input.
  Laid BY PROGRAM, IN A SANDBOX (cutbox-rows.mjs): the forced cells as the released guide's own fill.sh prints them over the translation f558c98900d4e322… (all of the seat's roots in one cut). By AI agents, Wed Nov 11 2026. No macro, syntax, notation, axiom, sorry.
-/
import Derived.Test.YtmhkngblpojeaaaChecked
import GoSem.Claim
import GoSem.ClaimJoined
import GoSem.ClaimMapViews
import Derived.JoinedTies
import Derived.KernelRfl
namespace Go.Proofs.Ytmhkngblpojeaaa
/- THE CELL 'sum', in the pinned program and in every row, IS THE sha256 OF THE DUMP (.gsa) THAT YtmhkngblpojeaaaProg.lean LOADS. Nothing in Lean hashes anything: it is a label: what it is worth is what the hold of that sum in a sandbox is worth. -/
noncomputable def Try.pinned : Pinned := { name := "ytmhkngblpojeaaa", sum := "f558c98900d4e322e822d42a69b0b8f4b32d9cae21ad1890dceda13f10880b11", checked := Try.checked }
namespace Rows
def none {H : Type} : Left H := { results := [], args := [] }

/-- 'hacklelaw06.FactDoes': WHATEVER THE INPUT: true; the input reads as it did. -/
def factDoesSpec : ChangeSpec := { name := "factDoes", fn := fun _ => fun
  | [d1, d2, d3, d4, d5] => { results := [.lit (.bool true)], args := [d1, d2, d3, d4, d5] }
  | _ => none }
def factDoesRow : OpenClaim := { program := "ytmhkngblpojeaaa", sum := "f558c98900d4e322e822d42a69b0b8f4b32d9cae21ad1890dceda13f10880b11", func := "hackle/hacklelaw06.FactDoes", spec := "factDoes", inPlace := ["math/bits.Add64"], apart := false }
def FactDoesSaid : Prop := factDoesRow.holds Try.pinned (OpenSpec.ofChange factDoesSpec)

/-- ITS FALSE NEIGHBOUR: 'it returns false'. Refute it at one input. -/
def factDoesWrong : ChangeSpec := { name := "factDoes", fn := fun _ => fun
  | [d1, d2, d3, d4, d5] => { results := [.lit (.bool false)], args := [d1, d2, d3, d4, d5] }
  | _ => none }
def FactDoesWrongFalsely : Prop := factDoesRow.holds Try.pinned (OpenSpec.ofChange factDoesWrong)

/-- 'hacklelaw06.FactNarrow': WHATEVER THE INPUT: true; the input reads as it did. -/
def factNarrowSpec : ChangeSpec := { name := "factNarrow", fn := fun _ => fun
  | [d1, d2, d3, d4] => { results := [.lit (.bool true)], args := [d1, d2, d3, d4] }
  | _ => none }
def factNarrowRow : OpenClaim := { program := "ytmhkngblpojeaaa", sum := "f558c98900d4e322e822d42a69b0b8f4b32d9cae21ad1890dceda13f10880b11", func := "hackle/hacklelaw06.FactNarrow", spec := "factNarrow", inPlace := ["math/bits.Add64"], apart := false }
def FactNarrowSaid : Prop := factNarrowRow.holds Try.pinned (OpenSpec.ofChange factNarrowSpec)

/-- ITS FALSE NEIGHBOUR: 'it returns false'. Refute it at one input. -/
def factNarrowWrong : ChangeSpec := { name := "factNarrow", fn := fun _ => fun
  | [d1, d2, d3, d4] => { results := [.lit (.bool false)], args := [d1, d2, d3, d4] }
  | _ => none }
def FactNarrowWrongFalsely : Prop := factNarrowRow.holds Try.pinned (OpenSpec.ofChange factNarrowWrong)

/-- 'hacklelaw06.FactSettles': WHATEVER THE INPUT: true; the input reads as it did. -/
def factSettlesSpec : ChangeSpec := { name := "factSettles", fn := fun _ => fun
  | [d1, d2] => { results := [.lit (.bool true)], args := [d1, d2] }
  | _ => none }
def factSettlesRow : OpenClaim := { program := "ytmhkngblpojeaaa", sum := "f558c98900d4e322e822d42a69b0b8f4b32d9cae21ad1890dceda13f10880b11", func := "hackle/hacklelaw06.FactSettles", spec := "factSettles", inPlace := ["math/bits.Add64"], apart := false }
def FactSettlesSaid : Prop := factSettlesRow.holds Try.pinned (OpenSpec.ofChange factSettlesSpec)

/-- ITS FALSE NEIGHBOUR: 'it returns false'. Refute it at one input. -/
def factSettlesWrong : ChangeSpec := { name := "factSettles", fn := fun _ => fun
  | [d1, d2] => { results := [.lit (.bool false)], args := [d1, d2] }
  | _ => none }
def FactSettlesWrongFalsely : Prop := factSettlesRow.holds Try.pinned (OpenSpec.ofChange factSettlesWrong)

/-- 'hacklelaw06.FactSound': WHATEVER THE INPUT: true; the input reads as it did. -/
def factSoundSpec : ChangeSpec := { name := "factSound", fn := fun _ => fun
  | [d1, d2, d3, d4] => { results := [.lit (.bool true)], args := [d1, d2, d3, d4] }
  | _ => none }
def factSoundRow : OpenClaim := { program := "ytmhkngblpojeaaa", sum := "f558c98900d4e322e822d42a69b0b8f4b32d9cae21ad1890dceda13f10880b11", func := "hackle/hacklelaw06.FactSound", spec := "factSound", inPlace := ["math/bits.Add64"], apart := false }
def FactSoundSaid : Prop := factSoundRow.holds Try.pinned (OpenSpec.ofChange factSoundSpec)

/-- ITS FALSE NEIGHBOUR: 'it returns false'. Refute it at one input. -/
def factSoundWrong : ChangeSpec := { name := "factSound", fn := fun _ => fun
  | [d1, d2, d3, d4] => { results := [.lit (.bool false)], args := [d1, d2, d3, d4] }
  | _ => none }
def FactSoundWrongFalsely : Prop := factSoundRow.holds Try.pinned (OpenSpec.ofChange factSoundWrong)

/-- 'hacklelaw06.FactTwo': WHATEVER THE INPUT: true; the input reads as it did. -/
def factTwoSpec : ChangeSpec := { name := "factTwo", fn := fun _ => fun
  | [d1, d2] => { results := [.lit (.bool true)], args := [d1, d2] }
  | _ => none }
def factTwoRow : OpenClaim := { program := "ytmhkngblpojeaaa", sum := "f558c98900d4e322e822d42a69b0b8f4b32d9cae21ad1890dceda13f10880b11", func := "hackle/hacklelaw06.FactTwo", spec := "factTwo", inPlace := ["math/bits.Add64"], apart := false }
def FactTwoSaid : Prop := factTwoRow.holds Try.pinned (OpenSpec.ofChange factTwoSpec)

/-- ITS FALSE NEIGHBOUR: 'it returns false'. Refute it at one input. -/
def factTwoWrong : ChangeSpec := { name := "factTwo", fn := fun _ => fun
  | [d1, d2] => { results := [.lit (.bool false)], args := [d1, d2] }
  | _ => none }
def FactTwoWrongFalsely : Prop := factTwoRow.holds Try.pinned (OpenSpec.ofChange factTwoWrong)

/-- 'hacklelaw06.FactJoins': WHATEVER THE INPUT: true; the input reads as it did. -/
def factJoinsSpec : ChangeSpec := { name := "factJoins", fn := fun _ => fun
  | [d] => { results := [.lit (.bool true)], args := [d] }
  | _ => none }
def factJoinsRow : OpenClaim := { program := "ytmhkngblpojeaaa", sum := "f558c98900d4e322e822d42a69b0b8f4b32d9cae21ad1890dceda13f10880b11", func := "hackle/hacklelaw06.FactJoins", spec := "factJoins", inPlace := ["math/bits.Add64"], apart := false }
def FactJoinsSaid : Prop := factJoinsRow.holds Try.pinned (OpenSpec.ofChange factJoinsSpec)

/-- ITS FALSE NEIGHBOUR: 'it returns false'. Refute it at one input. -/
def factJoinsWrong : ChangeSpec := { name := "factJoins", fn := fun _ => fun
  | [d] => { results := [.lit (.bool false)], args := [d] }
  | _ => none }
def FactJoinsWrongFalsely : Prop := factJoinsRow.holds Try.pinned (OpenSpec.ofChange factJoinsWrong)

/-- 'hacklelaw06.FactSelf': WHATEVER THE INPUT: true; the input reads as it did. -/
def factSelfSpec : ChangeSpec := { name := "factSelf", fn := fun _ => fun
  | [d1, d2] => { results := [.lit (.bool true)], args := [d1, d2] }
  | _ => none }
def factSelfRow : OpenClaim := { program := "ytmhkngblpojeaaa", sum := "f558c98900d4e322e822d42a69b0b8f4b32d9cae21ad1890dceda13f10880b11", func := "hackle/hacklelaw06.FactSelf", spec := "factSelf", inPlace := ["math/bits.Add64"], apart := false }
def FactSelfSaid : Prop := factSelfRow.holds Try.pinned (OpenSpec.ofChange factSelfSpec)

/-- ITS FALSE NEIGHBOUR: 'it returns false'. Refute it at one input. -/
def factSelfWrong : ChangeSpec := { name := "factSelf", fn := fun _ => fun
  | [d1, d2] => { results := [.lit (.bool false)], args := [d1, d2] }
  | _ => none }
def FactSelfWrongFalsely : Prop := factSelfRow.holds Try.pinned (OpenSpec.ofChange factSelfWrong)

/-- 'hacklelaw06.FactIf': WHATEVER THE INPUT: true; the input reads as it did. -/
def factIfSpec : ChangeSpec := { name := "factIf", fn := fun _ => fun
  | [d1, d2, d3, d4] => { results := [.lit (.bool true)], args := [d1, d2, d3, d4] }
  | _ => none }
def factIfRow : OpenClaim := { program := "ytmhkngblpojeaaa", sum := "f558c98900d4e322e822d42a69b0b8f4b32d9cae21ad1890dceda13f10880b11", func := "hackle/hacklelaw06.FactIf", spec := "factIf", inPlace := ["math/bits.Add64"], apart := false }
def FactIfSaid : Prop := factIfRow.holds Try.pinned (OpenSpec.ofChange factIfSpec)

/-- ITS FALSE NEIGHBOUR: 'it returns false'. Refute it at one input. -/
def factIfWrong : ChangeSpec := { name := "factIf", fn := fun _ => fun
  | [d1, d2, d3, d4] => { results := [.lit (.bool false)], args := [d1, d2, d3, d4] }
  | _ => none }
def FactIfWrongFalsely : Prop := factIfRow.holds Try.pinned (OpenSpec.ofChange factIfWrong)

/-- 'hacklelaw06.FactHolds': WHATEVER THE INPUT: true; the input reads as it did. -/
def factHoldsSpec : ChangeSpec := { name := "factHolds", fn := fun _ => fun
  | [d1, d2, d3] => { results := [.lit (.bool true)], args := [d1, d2, d3] }
  | _ => none }
def factHoldsRow : OpenClaim := { program := "ytmhkngblpojeaaa", sum := "f558c98900d4e322e822d42a69b0b8f4b32d9cae21ad1890dceda13f10880b11", func := "hackle/hacklelaw06.FactHolds", spec := "factHolds", inPlace := ["math/bits.Add64"], apart := false }
def FactHoldsSaid : Prop := factHoldsRow.holds Try.pinned (OpenSpec.ofChange factHoldsSpec)

/-- ITS FALSE NEIGHBOUR: 'it returns false'. Refute it at one input. -/
def factHoldsWrong : ChangeSpec := { name := "factHolds", fn := fun _ => fun
  | [d1, d2, d3] => { results := [.lit (.bool false)], args := [d1, d2, d3] }
  | _ => none }
def FactHoldsWrongFalsely : Prop := factHoldsRow.holds Try.pinned (OpenSpec.ofChange factHoldsWrong)

/- THE SECOND FORM. 'bulk': how many values and letters a reading holds, each counted each time it is reached (what is shared counts as often as it is met; a slice's spare places count too). A statement '..UptoSaid' is the law's where the arguments, and the package variables that the reading takes, are together of bulk at most 1048576: NARROWER than '..Said'. Prove '..Said' where nothing that the law and all that it calls make is longer than what came in: it says more and counts as full. Else prove '..UptoSaid'. A law counts once. -/
mutual
def uptoBulk {H : Type} : DataW H → Nat
  | .lit (.string bytes) => bytes.length + 1
  | .lit _ => 1
  | .nil => 1
  | .ptr d => uptoBulk d + 1
  | .slice elems spare => uptoBulkAll elems + uptoBulkAll spare + 1
  | .agg parts => uptoBulkAll parts + 1
  | .iface _ d => uptoBulk d + 1
  | .map entries => uptoBulkEntries entries + 1
  | .held _ => 1
def uptoBulkAll {H : Type} : List (DataW H) → Nat
  | [] => 0
  | d :: r => uptoBulk d + uptoBulkAll r
def uptoBulkEntries {H : Type} : List (Lit × DataW H) → Nat
  | [] => 0
  | x :: r => uptoBulkEntry x + uptoBulkEntries r
def uptoBulkEntry {H : Type} : Lit × DataW H → Nat
  | (.string bytes, d) => bytes.length + uptoBulk d + 1
  | (_, d) => uptoBulk d + 1
 end
def uptoSmall : (H : Type) → List (DataW H) → Bool := fun _ ds => decide (uptoBulkAll ds ≤ 1048576)
def OpenSpec.upto (s : _root_.Go.ChangeSpec) : _root_.Go.OpenSpec := { _root_.Go.OpenSpec.ofChange s with cond := some uptoSmall }

/-- 'hacklelaw06.FactDoes', WHERE WHAT IT READS IS OF BULK AT MOST 1048576: true; the input reads as it did. -/
def factDoesUptoRow : OpenClaim := { program := "ytmhkngblpojeaaa", sum := "f558c98900d4e322e822d42a69b0b8f4b32d9cae21ad1890dceda13f10880b11", func := "hackle/hacklelaw06.FactDoes", spec := "factDoes", inPlace := ["math/bits.Add64"], apart := false, narrowed := true }
def FactDoesUptoSaid : Prop := factDoesUptoRow.holds Try.pinned (OpenSpec.upto factDoesSpec)

/-- 'hacklelaw06.FactNarrow', WHERE WHAT IT READS IS OF BULK AT MOST 1048576: true; the input reads as it did. -/
def factNarrowUptoRow : OpenClaim := { program := "ytmhkngblpojeaaa", sum := "f558c98900d4e322e822d42a69b0b8f4b32d9cae21ad1890dceda13f10880b11", func := "hackle/hacklelaw06.FactNarrow", spec := "factNarrow", inPlace := ["math/bits.Add64"], apart := false, narrowed := true }
def FactNarrowUptoSaid : Prop := factNarrowUptoRow.holds Try.pinned (OpenSpec.upto factNarrowSpec)

/-- 'hacklelaw06.FactSettles', WHERE WHAT IT READS IS OF BULK AT MOST 1048576: true; the input reads as it did. -/
def factSettlesUptoRow : OpenClaim := { program := "ytmhkngblpojeaaa", sum := "f558c98900d4e322e822d42a69b0b8f4b32d9cae21ad1890dceda13f10880b11", func := "hackle/hacklelaw06.FactSettles", spec := "factSettles", inPlace := ["math/bits.Add64"], apart := false, narrowed := true }
def FactSettlesUptoSaid : Prop := factSettlesUptoRow.holds Try.pinned (OpenSpec.upto factSettlesSpec)

/-- 'hacklelaw06.FactSound', WHERE WHAT IT READS IS OF BULK AT MOST 1048576: true; the input reads as it did. -/
def factSoundUptoRow : OpenClaim := { program := "ytmhkngblpojeaaa", sum := "f558c98900d4e322e822d42a69b0b8f4b32d9cae21ad1890dceda13f10880b11", func := "hackle/hacklelaw06.FactSound", spec := "factSound", inPlace := ["math/bits.Add64"], apart := false, narrowed := true }
def FactSoundUptoSaid : Prop := factSoundUptoRow.holds Try.pinned (OpenSpec.upto factSoundSpec)

/-- 'hacklelaw06.FactTwo', WHERE WHAT IT READS IS OF BULK AT MOST 1048576: true; the input reads as it did. -/
def factTwoUptoRow : OpenClaim := { program := "ytmhkngblpojeaaa", sum := "f558c98900d4e322e822d42a69b0b8f4b32d9cae21ad1890dceda13f10880b11", func := "hackle/hacklelaw06.FactTwo", spec := "factTwo", inPlace := ["math/bits.Add64"], apart := false, narrowed := true }
def FactTwoUptoSaid : Prop := factTwoUptoRow.holds Try.pinned (OpenSpec.upto factTwoSpec)

/-- 'hacklelaw06.FactJoins', WHERE WHAT IT READS IS OF BULK AT MOST 1048576: true; the input reads as it did. -/
def factJoinsUptoRow : OpenClaim := { program := "ytmhkngblpojeaaa", sum := "f558c98900d4e322e822d42a69b0b8f4b32d9cae21ad1890dceda13f10880b11", func := "hackle/hacklelaw06.FactJoins", spec := "factJoins", inPlace := ["math/bits.Add64"], apart := false, narrowed := true }
def FactJoinsUptoSaid : Prop := factJoinsUptoRow.holds Try.pinned (OpenSpec.upto factJoinsSpec)

/-- 'hacklelaw06.FactSelf', WHERE WHAT IT READS IS OF BULK AT MOST 1048576: true; the input reads as it did. -/
def factSelfUptoRow : OpenClaim := { program := "ytmhkngblpojeaaa", sum := "f558c98900d4e322e822d42a69b0b8f4b32d9cae21ad1890dceda13f10880b11", func := "hackle/hacklelaw06.FactSelf", spec := "factSelf", inPlace := ["math/bits.Add64"], apart := false, narrowed := true }
def FactSelfUptoSaid : Prop := factSelfUptoRow.holds Try.pinned (OpenSpec.upto factSelfSpec)

/-- 'hacklelaw06.FactIf', WHERE WHAT IT READS IS OF BULK AT MOST 1048576: true; the input reads as it did. -/
def factIfUptoRow : OpenClaim := { program := "ytmhkngblpojeaaa", sum := "f558c98900d4e322e822d42a69b0b8f4b32d9cae21ad1890dceda13f10880b11", func := "hackle/hacklelaw06.FactIf", spec := "factIf", inPlace := ["math/bits.Add64"], apart := false, narrowed := true }
def FactIfUptoSaid : Prop := factIfUptoRow.holds Try.pinned (OpenSpec.upto factIfSpec)

/-- 'hacklelaw06.FactHolds', WHERE WHAT IT READS IS OF BULK AT MOST 1048576: true; the input reads as it did. -/
def factHoldsUptoRow : OpenClaim := { program := "ytmhkngblpojeaaa", sum := "f558c98900d4e322e822d42a69b0b8f4b32d9cae21ad1890dceda13f10880b11", func := "hackle/hacklelaw06.FactHolds", spec := "factHolds", inPlace := ["math/bits.Add64"], apart := false, narrowed := true }
def FactHoldsUptoSaid : Prop := factHoldsUptoRow.holds Try.pinned (OpenSpec.upto factHoldsSpec)

end Rows
end Go.Proofs.Ytmhkngblpojeaaa
