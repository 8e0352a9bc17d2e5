/-
  No cell of these rows narrows 'for every input' (looked for: loops, veiled, ifaces, maps, wideKeys, modest, calm, conditions, laid).
  DERIVED. THE GIVEN ROWS OF THIS SEAT. 5 by the template 'for every input the law returns true; each argument reads behind the call as it read before'; 0 by the template 'total and deterministic' (their statements: YtkpmhnfgldchaaaTotals.lean).
  GIVEN WITH THE SEED: the statements are not yours to turn. If you find one false, say at which input.
  Laid BY PROGRAM, IN A SANDBOX (cutbox-rows.mjs): the forced cells as the released guide's own fill.sh prints them over the translation debb0db481b3ff01… (all of the seat's roots in one cut). By AI agents, Wed Nov 11 2026. No macro, syntax, notation, axiom, sorry.
-/
import Derived.Test.YtkpmhnfgldchaaaChecked
import GoSem.Claim
import GoSem.ClaimJoined
import GoSem.ClaimMapViews
import Derived.JoinedTies
import Derived.KernelRfl
namespace Go.Proofs.Ytkpmhnfgldchaaa
/- THE CELL 'sum', in the pinned program and in every row, IS THE sha256 OF THE DUMP (.gsa) THAT YtkpmhnfgldchaaaProg.lean LOADS. Nothing in Lean hashes anything: it is a label: what it is worth is what the hold of that sum in a sandbox is worth. -/
noncomputable def Try.pinned : Pinned := { name := "ytkpmhnfgldchaaa", sum := "debb0db481b3ff01942bb191398379ce2dbadbb9717964ebce512d73c586ad5c", checked := Try.checked }
namespace Rows
def none {H : Type} : Left H := { results := [], args := [] }

/-- 'hacklelaw05.SpanSound': WHATEVER THE INPUT: true; the input reads as it did. -/
def spanSoundSpec : ChangeSpec := { name := "spanSound", fn := fun _ => fun
  | [d1, d2, d3, d4, d5, d6, d7] => { results := [.lit (.bool true)], args := [d1, d2, d3, d4, d5, d6, d7] }
  | _ => none }
def spanSoundRow : OpenClaim := { program := "ytkpmhnfgldchaaa", sum := "debb0db481b3ff01942bb191398379ce2dbadbb9717964ebce512d73c586ad5c", func := "hackle/hacklelaw05.SpanSound", spec := "spanSound", inPlace := ["math/bits.Add64"], apart := false }
def SpanSoundSaid : Prop := spanSoundRow.holds Try.pinned (OpenSpec.ofChange spanSoundSpec)

/-- ITS FALSE NEIGHBOUR: 'it returns false'. Refute it at one input. -/
def spanSoundWrong : ChangeSpec := { name := "spanSound", fn := fun _ => fun
  | [d1, d2, d3, d4, d5, d6, d7] => { results := [.lit (.bool false)], args := [d1, d2, d3, d4, d5, d6, d7] }
  | _ => none }
def SpanSoundWrongFalsely : Prop := spanSoundRow.holds Try.pinned (OpenSpec.ofChange spanSoundWrong)

/-- 'hacklelaw05.SpanEither': WHATEVER THE INPUT: true; the input reads as it did. -/
def spanEitherSpec : ChangeSpec := { name := "spanEither", fn := fun _ => fun
  | [d1, d2, d3, d4, d5, d6, d7] => { results := [.lit (.bool true)], args := [d1, d2, d3, d4, d5, d6, d7] }
  | _ => none }
def spanEitherRow : OpenClaim := { program := "ytkpmhnfgldchaaa", sum := "debb0db481b3ff01942bb191398379ce2dbadbb9717964ebce512d73c586ad5c", func := "hackle/hacklelaw05.SpanEither", spec := "spanEither", inPlace := ["math/bits.Add64"], apart := false }
def SpanEitherSaid : Prop := spanEitherRow.holds Try.pinned (OpenSpec.ofChange spanEitherSpec)

/-- ITS FALSE NEIGHBOUR: 'it returns false'. Refute it at one input. -/
def spanEitherWrong : ChangeSpec := { name := "spanEither", fn := fun _ => fun
  | [d1, d2, d3, d4, d5, d6, d7] => { results := [.lit (.bool false)], args := [d1, d2, d3, d4, d5, d6, d7] }
  | _ => none }
def SpanEitherWrongFalsely : Prop := spanEitherRow.holds Try.pinned (OpenSpec.ofChange spanEitherWrong)

/-- 'hacklelaw05.SpanIf': WHATEVER THE INPUT: true; the input reads as it did. -/
def spanIfSpec : ChangeSpec := { name := "spanIf", fn := fun _ => fun
  | [d1, d2, d3, d4, d5, d6, d7] => { results := [.lit (.bool true)], args := [d1, d2, d3, d4, d5, d6, d7] }
  | _ => none }
def spanIfRow : OpenClaim := { program := "ytkpmhnfgldchaaa", sum := "debb0db481b3ff01942bb191398379ce2dbadbb9717964ebce512d73c586ad5c", func := "hackle/hacklelaw05.SpanIf", spec := "spanIf", inPlace := ["math/bits.Add64"], apart := false }
def SpanIfSaid : Prop := spanIfRow.holds Try.pinned (OpenSpec.ofChange spanIfSpec)

/-- ITS FALSE NEIGHBOUR: 'it returns false'. Refute it at one input. -/
def spanIfWrong : ChangeSpec := { name := "spanIf", fn := fun _ => fun
  | [d1, d2, d3, d4, d5, d6, d7] => { results := [.lit (.bool false)], args := [d1, d2, d3, d4, d5, d6, d7] }
  | _ => none }
def SpanIfWrongFalsely : Prop := spanIfRow.holds Try.pinned (OpenSpec.ofChange spanIfWrong)

/-- 'hacklelaw05.SpanTells': WHATEVER THE INPUT: true; the input reads as it did. -/
def spanTellsSpec : ChangeSpec := { name := "spanTells", fn := fun _ => fun
  | [d1, d2, d3] => { results := [.lit (.bool true)], args := [d1, d2, d3] }
  | _ => none }
def spanTellsRow : OpenClaim := { program := "ytkpmhnfgldchaaa", sum := "debb0db481b3ff01942bb191398379ce2dbadbb9717964ebce512d73c586ad5c", func := "hackle/hacklelaw05.SpanTells", spec := "spanTells", inPlace := ["math/bits.Add64"], apart := false }
def SpanTellsSaid : Prop := spanTellsRow.holds Try.pinned (OpenSpec.ofChange spanTellsSpec)

/-- ITS FALSE NEIGHBOUR: 'it returns false'. Refute it at one input. -/
def spanTellsWrong : ChangeSpec := { name := "spanTells", fn := fun _ => fun
  | [d1, d2, d3] => { results := [.lit (.bool false)], args := [d1, d2, d3] }
  | _ => none }
def SpanTellsWrongFalsely : Prop := spanTellsRow.holds Try.pinned (OpenSpec.ofChange spanTellsWrong)

/-- 'hacklelaw05.SpanParts': WHATEVER THE INPUT: true; the input reads as it did. -/
def spanPartsSpec : ChangeSpec := { name := "spanParts", fn := fun _ => fun
  | [d1, d2] => { results := [.lit (.bool true)], args := [d1, d2] }
  | _ => none }
def spanPartsRow : OpenClaim := { program := "ytkpmhnfgldchaaa", sum := "debb0db481b3ff01942bb191398379ce2dbadbb9717964ebce512d73c586ad5c", func := "hackle/hacklelaw05.SpanParts", spec := "spanParts", inPlace := ["math/bits.Add64"], apart := false }
def SpanPartsSaid : Prop := spanPartsRow.holds Try.pinned (OpenSpec.ofChange spanPartsSpec)

/-- ITS FALSE NEIGHBOUR: 'it returns false'. Refute it at one input. -/
def spanPartsWrong : ChangeSpec := { name := "spanParts", fn := fun _ => fun
  | [d1, d2] => { results := [.lit (.bool false)], args := [d1, d2] }
  | _ => none }
def SpanPartsWrongFalsely : Prop := spanPartsRow.holds Try.pinned (OpenSpec.ofChange spanPartsWrong)

/- THE SECOND FORM. 'bulk': how many values and letters a reading holds, each counted each time it is reached (what is shared counts as often as it is met; a slice's spare places count too). A statement '..UptoSaid' is the law's where the arguments, and the package variables that the reading takes, are together of bulk at most 1048576: NARROWER than '..Said'. Prove '..Said' where nothing that the law and all that it calls make is longer than what came in: it says more and counts as full. Else prove '..UptoSaid'. A law counts once. -/
mutual
def uptoBulk {H : Type} : DataW H → Nat
  | .lit (.string bytes) => bytes.length + 1
  | .lit _ => 1
  | .nil => 1
  | .ptr d => uptoBulk d + 1
  | .slice elems spare => uptoBulkAll elems + uptoBulkAll spare + 1
  | .agg parts => uptoBulkAll parts + 1
  | .iface _ d => uptoBulk d + 1
  | .map entries => uptoBulkEntries entries + 1
  | .held _ => 1
def uptoBulkAll {H : Type} : List (DataW H) → Nat
  | [] => 0
  | d :: r => uptoBulk d + uptoBulkAll r
def uptoBulkEntries {H : Type} : List (Lit × DataW H) → Nat
  | [] => 0
  | x :: r => uptoBulkEntry x + uptoBulkEntries r
def uptoBulkEntry {H : Type} : Lit × DataW H → Nat
  | (.string bytes, d) => bytes.length + uptoBulk d + 1
  | (_, d) => uptoBulk d + 1
 end
def uptoSmall : (H : Type) → List (DataW H) → Bool := fun _ ds => decide (uptoBulkAll ds ≤ 1048576)
def OpenSpec.upto (s : _root_.Go.ChangeSpec) : _root_.Go.OpenSpec := { _root_.Go.OpenSpec.ofChange s with cond := some uptoSmall }

/-- 'hacklelaw05.SpanSound', WHERE WHAT IT READS IS OF BULK AT MOST 1048576: true; the input reads as it did. -/
def spanSoundUptoRow : OpenClaim := { program := "ytkpmhnfgldchaaa", sum := "debb0db481b3ff01942bb191398379ce2dbadbb9717964ebce512d73c586ad5c", func := "hackle/hacklelaw05.SpanSound", spec := "spanSound", inPlace := ["math/bits.Add64"], apart := false, narrowed := true }
def SpanSoundUptoSaid : Prop := spanSoundUptoRow.holds Try.pinned (OpenSpec.upto spanSoundSpec)

/-- 'hacklelaw05.SpanEither', WHERE WHAT IT READS IS OF BULK AT MOST 1048576: true; the input reads as it did. -/
def spanEitherUptoRow : OpenClaim := { program := "ytkpmhnfgldchaaa", sum := "debb0db481b3ff01942bb191398379ce2dbadbb9717964ebce512d73c586ad5c", func := "hackle/hacklelaw05.SpanEither", spec := "spanEither", inPlace := ["math/bits.Add64"], apart := false, narrowed := true }
def SpanEitherUptoSaid : Prop := spanEitherUptoRow.holds Try.pinned (OpenSpec.upto spanEitherSpec)

/-- 'hacklelaw05.SpanIf', WHERE WHAT IT READS IS OF BULK AT MOST 1048576: true; the input reads as it did. -/
def spanIfUptoRow : OpenClaim := { program := "ytkpmhnfgldchaaa", sum := "debb0db481b3ff01942bb191398379ce2dbadbb9717964ebce512d73c586ad5c", func := "hackle/hacklelaw05.SpanIf", spec := "spanIf", inPlace := ["math/bits.Add64"], apart := false, narrowed := true }
def SpanIfUptoSaid : Prop := spanIfUptoRow.holds Try.pinned (OpenSpec.upto spanIfSpec)

/-- 'hacklelaw05.SpanTells', WHERE WHAT IT READS IS OF BULK AT MOST 1048576: true; the input reads as it did. -/
def spanTellsUptoRow : OpenClaim := { program := "ytkpmhnfgldchaaa", sum := "debb0db481b3ff01942bb191398379ce2dbadbb9717964ebce512d73c586ad5c", func := "hackle/hacklelaw05.SpanTells", spec := "spanTells", inPlace := ["math/bits.Add64"], apart := false, narrowed := true }
def SpanTellsUptoSaid : Prop := spanTellsUptoRow.holds Try.pinned (OpenSpec.upto spanTellsSpec)

/-- 'hacklelaw05.SpanParts', WHERE WHAT IT READS IS OF BULK AT MOST 1048576: true; the input reads as it did. -/
def spanPartsUptoRow : OpenClaim := { program := "ytkpmhnfgldchaaa", sum := "debb0db481b3ff01942bb191398379ce2dbadbb9717964ebce512d73c586ad5c", func := "hackle/hacklelaw05.SpanParts", spec := "spanParts", inPlace := ["math/bits.Add64"], apart := false, narrowed := true }
def SpanPartsUptoSaid : Prop := spanPartsUptoRow.holds Try.pinned (OpenSpec.upto spanPartsSpec)

end Rows
end Go.Proofs.Ytkpmhnfgldchaaa
