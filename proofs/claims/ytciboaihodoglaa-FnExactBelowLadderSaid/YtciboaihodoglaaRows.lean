/-
  No cell of these rows narrows 'for every input' (looked for: loops, veiled, ifaces, maps, wideKeys, modest, calm, conditions, laid).
  DERIVED. THE GIVEN ROWS OF THIS SEAT. 6 by the template 'for every input the law returns true; each argument reads behind the call as it read before'; 0 by the template 'total and deterministic' (their statements: YtciboaihodoglaaTotals.lean).
  GIVEN WITH THE SEED: the statements are not yours to turn. If you find one false, say at which input.
  Laid BY PROGRAM, IN A SANDBOX (cutbox-rows.mjs): the forced cells as the released guide's own fill.sh prints them over the translation 1ceecf3fb4ac4307… (all of the seat's roots in one cut). By AI agents, Wed Nov 11 2026. No macro, syntax, notation, axiom, sorry.
-/
import Derived.Test.YtciboaihodoglaaChecked
import GoSem.Claim
import GoSem.ClaimJoined
import GoSem.ClaimMapViews
import Derived.JoinedTies
import Derived.KernelRfl
namespace Go.Proofs.Ytciboaihodoglaa
/- THE CELL 'sum', in the pinned program and in every row, IS THE sha256 OF THE DUMP (.gsa) THAT YtciboaihodoglaaProg.lean LOADS. Nothing in Lean hashes anything: it is a label: what it is worth is what the hold of that sum in a sandbox is worth. -/
noncomputable def Try.pinned : Pinned := { name := "ytciboaihodoglaa", sum := "1ceecf3fb4ac43075cb0a20ae31bf595f3df90b76e2e83d61e439e9bd097299d", checked := Try.checked }
namespace Rows
def none {H : Type} : Left H := { results := [], args := [] }

/-- 'laws.FnExactInvertedPairs': WHATEVER THE INPUT: true; the input reads as it did. -/
def fnExactInvertedPairsSpec : ChangeSpec := { name := "fnExactInvertedPairs", fn := fun _ => fun
  | [d] => { results := [.lit (.bool true)], args := [d] }
  | _ => none }
def fnExactInvertedPairsRow : OpenClaim := { program := "ytciboaihodoglaa", sum := "1ceecf3fb4ac43075cb0a20ae31bf595f3df90b76e2e83d61e439e9bd097299d", func := "loop.example/g01209/laws.FnExactInvertedPairs", spec := "fnExactInvertedPairs", apart := false }
def FnExactInvertedPairsSaid : Prop := fnExactInvertedPairsRow.holds Try.pinned (OpenSpec.ofChange fnExactInvertedPairsSpec)

/-- ITS FALSE NEIGHBOUR: 'it returns false'. Refute it at one input. -/
def fnExactInvertedPairsWrong : ChangeSpec := { name := "fnExactInvertedPairs", fn := fun _ => fun
  | [d] => { results := [.lit (.bool false)], args := [d] }
  | _ => none }
def FnExactInvertedPairsWrongFalsely : Prop := fnExactInvertedPairsRow.holds Try.pinned (OpenSpec.ofChange fnExactInvertedPairsWrong)

/-- 'laws.FnExactCyclesOf': WHATEVER THE INPUT: true; the input reads as it did. -/
def fnExactCyclesOfSpec : ChangeSpec := { name := "fnExactCyclesOf", fn := fun _ => fun
  | [d] => { results := [.lit (.bool true)], args := [d] }
  | _ => none }
def fnExactCyclesOfRow : OpenClaim := { program := "ytciboaihodoglaa", sum := "1ceecf3fb4ac43075cb0a20ae31bf595f3df90b76e2e83d61e439e9bd097299d", func := "loop.example/g01209/laws.FnExactCyclesOf", spec := "fnExactCyclesOf", apart := false }
def FnExactCyclesOfSaid : Prop := fnExactCyclesOfRow.holds Try.pinned (OpenSpec.ofChange fnExactCyclesOfSpec)

/-- ITS FALSE NEIGHBOUR: 'it returns false'. Refute it at one input. -/
def fnExactCyclesOfWrong : ChangeSpec := { name := "fnExactCyclesOf", fn := fun _ => fun
  | [d] => { results := [.lit (.bool false)], args := [d] }
  | _ => none }
def FnExactCyclesOfWrongFalsely : Prop := fnExactCyclesOfRow.holds Try.pinned (OpenSpec.ofChange fnExactCyclesOfWrong)

/-- 'laws.FnExactBelowLadder': WHATEVER THE INPUT: true; the input reads as it did. -/
def fnExactBelowLadderSpec : ChangeSpec := { name := "fnExactBelowLadder", fn := fun _ => fun
  | [d1, d2] => { results := [.lit (.bool true)], args := [d1, d2] }
  | _ => none }
def fnExactBelowLadderRow : OpenClaim := { program := "ytciboaihodoglaa", sum := "1ceecf3fb4ac43075cb0a20ae31bf595f3df90b76e2e83d61e439e9bd097299d", func := "loop.example/g01209/laws.FnExactBelowLadder", spec := "fnExactBelowLadder", unfollowed := true, recurses := true, apart := false }
def FnExactBelowLadderSaid : Prop := fnExactBelowLadderRow.holds Try.pinned (OpenSpec.ofChange fnExactBelowLadderSpec)

/-- ITS FALSE NEIGHBOUR: 'it returns false'. Refute it at one input. -/
def fnExactBelowLadderWrong : ChangeSpec := { name := "fnExactBelowLadder", fn := fun _ => fun
  | [d1, d2] => { results := [.lit (.bool false)], args := [d1, d2] }
  | _ => none }
def FnExactBelowLadderWrongFalsely : Prop := fnExactBelowLadderRow.holds Try.pinned (OpenSpec.ofChange fnExactBelowLadderWrong)

/-- 'laws.FnExactRepeatLadder': WHATEVER THE INPUT: true; the input reads as it did. -/
def fnExactRepeatLadderSpec : ChangeSpec := { name := "fnExactRepeatLadder", fn := fun _ => fun
  | [d1, d2] => { results := [.lit (.bool true)], args := [d1, d2] }
  | _ => none }
def fnExactRepeatLadderRow : OpenClaim := { program := "ytciboaihodoglaa", sum := "1ceecf3fb4ac43075cb0a20ae31bf595f3df90b76e2e83d61e439e9bd097299d", func := "loop.example/g01209/laws.FnExactRepeatLadder", spec := "fnExactRepeatLadder", unfollowed := true, recurses := true, apart := false }
def FnExactRepeatLadderSaid : Prop := fnExactRepeatLadderRow.holds Try.pinned (OpenSpec.ofChange fnExactRepeatLadderSpec)

/-- ITS FALSE NEIGHBOUR: 'it returns false'. Refute it at one input. -/
def fnExactRepeatLadderWrong : ChangeSpec := { name := "fnExactRepeatLadder", fn := fun _ => fun
  | [d1, d2] => { results := [.lit (.bool false)], args := [d1, d2] }
  | _ => none }
def FnExactRepeatLadderWrongFalsely : Prop := fnExactRepeatLadderRow.holds Try.pinned (OpenSpec.ofChange fnExactRepeatLadderWrong)

/-- 'laws.FnExactFirstSame': WHATEVER THE INPUT: true; the input reads as it did. -/
def fnExactFirstSameSpec : ChangeSpec := { name := "fnExactFirstSame", fn := fun _ => fun
  | [d] => { results := [.lit (.bool true)], args := [d] }
  | _ => none }
def fnExactFirstSameRow : OpenClaim := { program := "ytciboaihodoglaa", sum := "1ceecf3fb4ac43075cb0a20ae31bf595f3df90b76e2e83d61e439e9bd097299d", func := "loop.example/g01209/laws.FnExactFirstSame", spec := "fnExactFirstSame", unfollowed := true, recurses := true, apart := false }
def FnExactFirstSameSaid : Prop := fnExactFirstSameRow.holds Try.pinned (OpenSpec.ofChange fnExactFirstSameSpec)

/-- ITS FALSE NEIGHBOUR: 'it returns false'. Refute it at one input. -/
def fnExactFirstSameWrong : ChangeSpec := { name := "fnExactFirstSame", fn := fun _ => fun
  | [d] => { results := [.lit (.bool false)], args := [d] }
  | _ => none }
def FnExactFirstSameWrongFalsely : Prop := fnExactFirstSameRow.holds Try.pinned (OpenSpec.ofChange fnExactFirstSameWrong)

/-- 'laws.FnExactAreSlides': WHATEVER THE INPUT: true; the input reads as it did. -/
def fnExactAreSlidesSpec : ChangeSpec := { name := "fnExactAreSlides", fn := fun _ => fun
  | [d1, d2] => { results := [.lit (.bool true)], args := [d1, d2] }
  | _ => none }
def fnExactAreSlidesRow : OpenClaim := { program := "ytciboaihodoglaa", sum := "1ceecf3fb4ac43075cb0a20ae31bf595f3df90b76e2e83d61e439e9bd097299d", func := "loop.example/g01209/laws.FnExactAreSlides", spec := "fnExactAreSlides", unfollowed := true, recurses := true, apart := false }
def FnExactAreSlidesSaid : Prop := fnExactAreSlidesRow.holds Try.pinned (OpenSpec.ofChange fnExactAreSlidesSpec)

/-- ITS FALSE NEIGHBOUR: 'it returns false'. Refute it at one input. -/
def fnExactAreSlidesWrong : ChangeSpec := { name := "fnExactAreSlides", fn := fun _ => fun
  | [d1, d2] => { results := [.lit (.bool false)], args := [d1, d2] }
  | _ => none }
def FnExactAreSlidesWrongFalsely : Prop := fnExactAreSlidesRow.holds Try.pinned (OpenSpec.ofChange fnExactAreSlidesWrong)

/- THE SECOND FORM. 'bulk': how many values and letters a reading holds, each counted each time it is reached (what is shared counts as often as it is met; a slice's spare places count too). A statement '..UptoSaid' is the law's where the arguments, and the package variables that the reading takes, are together of bulk at most 1048576: NARROWER than '..Said'. Prove '..Said' where nothing that the law and all that it calls make is longer than what came in: it says more and counts as full. Else prove '..UptoSaid'. A law counts once. -/
mutual
def uptoBulk {H : Type} : DataW H → Nat
  | .lit (.string bytes) => bytes.length + 1
  | .lit _ => 1
  | .nil => 1
  | .ptr d => uptoBulk d + 1
  | .slice elems spare => uptoBulkAll elems + uptoBulkAll spare + 1
  | .agg parts => uptoBulkAll parts + 1
  | .iface _ d => uptoBulk d + 1
  | .map entries => uptoBulkEntries entries + 1
  | .held _ => 1
def uptoBulkAll {H : Type} : List (DataW H) → Nat
  | [] => 0
  | d :: r => uptoBulk d + uptoBulkAll r
def uptoBulkEntries {H : Type} : List (Lit × DataW H) → Nat
  | [] => 0
  | x :: r => uptoBulkEntry x + uptoBulkEntries r
def uptoBulkEntry {H : Type} : Lit × DataW H → Nat
  | (.string bytes, d) => bytes.length + uptoBulk d + 1
  | (_, d) => uptoBulk d + 1
 end
def uptoSmall : (H : Type) → List (DataW H) → Bool := fun _ ds => decide (uptoBulkAll ds ≤ 1048576)
def OpenSpec.upto (s : _root_.Go.ChangeSpec) : _root_.Go.OpenSpec := { _root_.Go.OpenSpec.ofChange s with cond := some uptoSmall }

/-- 'laws.FnExactInvertedPairs', WHERE WHAT IT READS IS OF BULK AT MOST 1048576: true; the input reads as it did. -/
def fnExactInvertedPairsUptoRow : OpenClaim := { program := "ytciboaihodoglaa", sum := "1ceecf3fb4ac43075cb0a20ae31bf595f3df90b76e2e83d61e439e9bd097299d", func := "loop.example/g01209/laws.FnExactInvertedPairs", spec := "fnExactInvertedPairs", apart := false, narrowed := true }
def FnExactInvertedPairsUptoSaid : Prop := fnExactInvertedPairsUptoRow.holds Try.pinned (OpenSpec.upto fnExactInvertedPairsSpec)

/-- 'laws.FnExactCyclesOf', WHERE WHAT IT READS IS OF BULK AT MOST 1048576: true; the input reads as it did. -/
def fnExactCyclesOfUptoRow : OpenClaim := { program := "ytciboaihodoglaa", sum := "1ceecf3fb4ac43075cb0a20ae31bf595f3df90b76e2e83d61e439e9bd097299d", func := "loop.example/g01209/laws.FnExactCyclesOf", spec := "fnExactCyclesOf", apart := false, narrowed := true }
def FnExactCyclesOfUptoSaid : Prop := fnExactCyclesOfUptoRow.holds Try.pinned (OpenSpec.upto fnExactCyclesOfSpec)

/-- 'laws.FnExactBelowLadder', WHERE WHAT IT READS IS OF BULK AT MOST 1048576: true; the input reads as it did. -/
def fnExactBelowLadderUptoRow : OpenClaim := { program := "ytciboaihodoglaa", sum := "1ceecf3fb4ac43075cb0a20ae31bf595f3df90b76e2e83d61e439e9bd097299d", func := "loop.example/g01209/laws.FnExactBelowLadder", spec := "fnExactBelowLadder", unfollowed := true, recurses := true, apart := false, narrowed := true }
def FnExactBelowLadderUptoSaid : Prop := fnExactBelowLadderUptoRow.holds Try.pinned (OpenSpec.upto fnExactBelowLadderSpec)

/-- 'laws.FnExactRepeatLadder', WHERE WHAT IT READS IS OF BULK AT MOST 1048576: true; the input reads as it did. -/
def fnExactRepeatLadderUptoRow : OpenClaim := { program := "ytciboaihodoglaa", sum := "1ceecf3fb4ac43075cb0a20ae31bf595f3df90b76e2e83d61e439e9bd097299d", func := "loop.example/g01209/laws.FnExactRepeatLadder", spec := "fnExactRepeatLadder", unfollowed := true, recurses := true, apart := false, narrowed := true }
def FnExactRepeatLadderUptoSaid : Prop := fnExactRepeatLadderUptoRow.holds Try.pinned (OpenSpec.upto fnExactRepeatLadderSpec)

/-- 'laws.FnExactFirstSame', WHERE WHAT IT READS IS OF BULK AT MOST 1048576: true; the input reads as it did. -/
def fnExactFirstSameUptoRow : OpenClaim := { program := "ytciboaihodoglaa", sum := "1ceecf3fb4ac43075cb0a20ae31bf595f3df90b76e2e83d61e439e9bd097299d", func := "loop.example/g01209/laws.FnExactFirstSame", spec := "fnExactFirstSame", unfollowed := true, recurses := true, apart := false, narrowed := true }
def FnExactFirstSameUptoSaid : Prop := fnExactFirstSameUptoRow.holds Try.pinned (OpenSpec.upto fnExactFirstSameSpec)

/-- 'laws.FnExactAreSlides', WHERE WHAT IT READS IS OF BULK AT MOST 1048576: true; the input reads as it did. -/
def fnExactAreSlidesUptoRow : OpenClaim := { program := "ytciboaihodoglaa", sum := "1ceecf3fb4ac43075cb0a20ae31bf595f3df90b76e2e83d61e439e9bd097299d", func := "loop.example/g01209/laws.FnExactAreSlides", spec := "fnExactAreSlides", unfollowed := true, recurses := true, apart := false, narrowed := true }
def FnExactAreSlidesUptoSaid : Prop := fnExactAreSlidesUptoRow.holds Try.pinned (OpenSpec.upto fnExactAreSlidesSpec)

end Rows
end Go.Proofs.Ytciboaihodoglaa
