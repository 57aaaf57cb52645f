/-
  No cell of these rows narrows 'for every input' (looked for: loops, veiled, ifaces, maps, wideKeys, modest, calm, conditions, laid).
  DERIVED. THE GIVEN ROWS OF THIS SEAT. 8 by the template 'for every input the law returns true; each argument reads behind the call as it read before'; 0 by the template 'total and deterministic' (their statements: YtogkfcjebabloaaTotals.lean).
  GIVEN WITH THE SEED: the statements are not yours to turn. If you find one false, say at which input.
  Laid BY PROGRAM, IN A SANDBOX (cutbox-rows.mjs): the forced cells as the released guide's own fill.sh prints them over the translation db3aaeedfb3e0ab5… (all of the seat's roots in one cut). By AI agents, Wed Nov 11 2026. No macro, syntax, notation, axiom, sorry.
-/
import Derived.Test.YtogkfcjebabloaaChecked
import GoSem.Claim
import GoSem.ClaimJoined
import GoSem.ClaimMapViews
import Derived.JoinedTies
import Derived.KernelRfl
namespace Go.Proofs.Ytogkfcjebabloaa
/- THE CELL 'sum', in the pinned program and in every row, IS THE sha256 OF THE DUMP (.gsa) THAT YtogkfcjebabloaaProg.lean LOADS. Nothing in Lean hashes anything: it is a label: what it is worth is what the hold of that sum in a sandbox is worth. -/
noncomputable def Try.pinned : Pinned := { name := "ytogkfcjebabloaa", sum := "db3aaeedfb3e0ab5028e453eb511fcad69a84d553658a7f3f2e4117933006b3e", checked := Try.checked }
namespace Rows
def none {H : Type} : Left H := { results := [], args := [] }

/-- 'laws.FnExactBackOrder': WHATEVER THE INPUT: true; the input reads as it did. -/
def fnExactBackOrderSpec : ChangeSpec := { name := "fnExactBackOrder", fn := fun _ => fun
  | [d] => { results := [.lit (.bool true)], args := [d] }
  | _ => none }
def fnExactBackOrderRow : OpenClaim := { program := "ytogkfcjebabloaa", sum := "db3aaeedfb3e0ab5028e453eb511fcad69a84d553658a7f3f2e4117933006b3e", func := "loop.example/g01209/laws.FnExactBackOrder", spec := "fnExactBackOrder", apart := false }
def FnExactBackOrderSaid : Prop := fnExactBackOrderRow.holds Try.pinned (OpenSpec.ofChange fnExactBackOrderSpec)

/-- ITS FALSE NEIGHBOUR: 'it returns false'. Refute it at one input. -/
def fnExactBackOrderWrong : ChangeSpec := { name := "fnExactBackOrder", fn := fun _ => fun
  | [d] => { results := [.lit (.bool false)], args := [d] }
  | _ => none }
def FnExactBackOrderWrongFalsely : Prop := fnExactBackOrderRow.holds Try.pinned (OpenSpec.ofChange fnExactBackOrderWrong)

/-- 'laws.FnExactThenOrder': WHATEVER THE INPUT: true; the input reads as it did. -/
def fnExactThenOrderSpec : ChangeSpec := { name := "fnExactThenOrder", fn := fun _ => fun
  | [d1, d2] => { results := [.lit (.bool true)], args := [d1, d2] }
  | _ => none }
def fnExactThenOrderRow : OpenClaim := { program := "ytogkfcjebabloaa", sum := "db3aaeedfb3e0ab5028e453eb511fcad69a84d553658a7f3f2e4117933006b3e", func := "loop.example/g01209/laws.FnExactThenOrder", spec := "fnExactThenOrder", apart := false }
def FnExactThenOrderSaid : Prop := fnExactThenOrderRow.holds Try.pinned (OpenSpec.ofChange fnExactThenOrderSpec)

/-- ITS FALSE NEIGHBOUR: 'it returns false'. Refute it at one input. -/
def fnExactThenOrderWrong : ChangeSpec := { name := "fnExactThenOrder", fn := fun _ => fun
  | [d1, d2] => { results := [.lit (.bool false)], args := [d1, d2] }
  | _ => none }
def FnExactThenOrderWrongFalsely : Prop := fnExactThenOrderRow.holds Try.pinned (OpenSpec.ofChange fnExactThenOrderWrong)

/-- 'laws.FnExactDescentsOf': WHATEVER THE INPUT: true; the input reads as it did. -/
def fnExactDescentsOfSpec : ChangeSpec := { name := "fnExactDescentsOf", fn := fun _ => fun
  | [d] => { results := [.lit (.bool true)], args := [d] }
  | _ => none }
def fnExactDescentsOfRow : OpenClaim := { program := "ytogkfcjebabloaa", sum := "db3aaeedfb3e0ab5028e453eb511fcad69a84d553658a7f3f2e4117933006b3e", func := "loop.example/g01209/laws.FnExactDescentsOf", spec := "fnExactDescentsOf", apart := false }
def FnExactDescentsOfSaid : Prop := fnExactDescentsOfRow.holds Try.pinned (OpenSpec.ofChange fnExactDescentsOfSpec)

/-- ITS FALSE NEIGHBOUR: 'it returns false'. Refute it at one input. -/
def fnExactDescentsOfWrong : ChangeSpec := { name := "fnExactDescentsOf", fn := fun _ => fun
  | [d] => { results := [.lit (.bool false)], args := [d] }
  | _ => none }
def FnExactDescentsOfWrongFalsely : Prop := fnExactDescentsOfRow.holds Try.pinned (OpenSpec.ofChange fnExactDescentsOfWrong)

/-- 'laws.FnExactSignOf': WHATEVER THE INPUT: true; the input reads as it did. -/
def fnExactSignOfSpec : ChangeSpec := { name := "fnExactSignOf", fn := fun _ => fun
  | [d] => { results := [.lit (.bool true)], args := [d] }
  | _ => none }
def fnExactSignOfRow : OpenClaim := { program := "ytogkfcjebabloaa", sum := "db3aaeedfb3e0ab5028e453eb511fcad69a84d553658a7f3f2e4117933006b3e", func := "loop.example/g01209/laws.FnExactSignOf", spec := "fnExactSignOf", apart := false }
def FnExactSignOfSaid : Prop := fnExactSignOfRow.holds Try.pinned (OpenSpec.ofChange fnExactSignOfSpec)

/-- ITS FALSE NEIGHBOUR: 'it returns false'. Refute it at one input. -/
def fnExactSignOfWrong : ChangeSpec := { name := "fnExactSignOf", fn := fun _ => fun
  | [d] => { results := [.lit (.bool false)], args := [d] }
  | _ => none }
def FnExactSignOfWrongFalsely : Prop := fnExactSignOfRow.holds Try.pinned (OpenSpec.ofChange fnExactSignOfWrong)

/-- 'laws.FnExactCodeOf': WHATEVER THE INPUT: true; the input reads as it did. -/
def fnExactCodeOfSpec : ChangeSpec := { name := "fnExactCodeOf", fn := fun _ => fun
  | [d] => { results := [.lit (.bool true)], args := [d] }
  | _ => none }
def fnExactCodeOfRow : OpenClaim := { program := "ytogkfcjebabloaa", sum := "db3aaeedfb3e0ab5028e453eb511fcad69a84d553658a7f3f2e4117933006b3e", func := "loop.example/g01209/laws.FnExactCodeOf", spec := "fnExactCodeOf", apart := false }
def FnExactCodeOfSaid : Prop := fnExactCodeOfRow.holds Try.pinned (OpenSpec.ofChange fnExactCodeOfSpec)

/-- ITS FALSE NEIGHBOUR: 'it returns false'. Refute it at one input. -/
def fnExactCodeOfWrong : ChangeSpec := { name := "fnExactCodeOf", fn := fun _ => fun
  | [d] => { results := [.lit (.bool false)], args := [d] }
  | _ => none }
def FnExactCodeOfWrongFalsely : Prop := fnExactCodeOfRow.holds Try.pinned (OpenSpec.ofChange fnExactCodeOfWrong)

/-- 'laws.FnExactOrderTimes': WHATEVER THE INPUT: true; the input reads as it did. -/
def fnExactOrderTimesSpec : ChangeSpec := { name := "fnExactOrderTimes", fn := fun _ => fun
  | [d] => { results := [.lit (.bool true)], args := [d] }
  | _ => none }
def fnExactOrderTimesRow : OpenClaim := { program := "ytogkfcjebabloaa", sum := "db3aaeedfb3e0ab5028e453eb511fcad69a84d553658a7f3f2e4117933006b3e", func := "loop.example/g01209/laws.FnExactOrderTimes", spec := "fnExactOrderTimes", apart := false }
def FnExactOrderTimesSaid : Prop := fnExactOrderTimesRow.holds Try.pinned (OpenSpec.ofChange fnExactOrderTimesSpec)

/-- ITS FALSE NEIGHBOUR: 'it returns false'. Refute it at one input. -/
def fnExactOrderTimesWrong : ChangeSpec := { name := "fnExactOrderTimes", fn := fun _ => fun
  | [d] => { results := [.lit (.bool false)], args := [d] }
  | _ => none }
def FnExactOrderTimesWrongFalsely : Prop := fnExactOrderTimesRow.holds Try.pinned (OpenSpec.ofChange fnExactOrderTimesWrong)

/-- 'laws.FnExactInvertedPairs': WHATEVER THE INPUT: true; the input reads as it did. -/
def fnExactInvertedPairsSpec : ChangeSpec := { name := "fnExactInvertedPairs", fn := fun _ => fun
  | [d] => { results := [.lit (.bool true)], args := [d] }
  | _ => none }
def fnExactInvertedPairsRow : OpenClaim := { program := "ytogkfcjebabloaa", sum := "db3aaeedfb3e0ab5028e453eb511fcad69a84d553658a7f3f2e4117933006b3e", func := "loop.example/g01209/laws.FnExactInvertedPairs", spec := "fnExactInvertedPairs", apart := false }
def FnExactInvertedPairsSaid : Prop := fnExactInvertedPairsRow.holds Try.pinned (OpenSpec.ofChange fnExactInvertedPairsSpec)

/-- ITS FALSE NEIGHBOUR: 'it returns false'. Refute it at one input. -/
def fnExactInvertedPairsWrong : ChangeSpec := { name := "fnExactInvertedPairs", fn := fun _ => fun
  | [d] => { results := [.lit (.bool false)], args := [d] }
  | _ => none }
def FnExactInvertedPairsWrongFalsely : Prop := fnExactInvertedPairsRow.holds Try.pinned (OpenSpec.ofChange fnExactInvertedPairsWrong)

/-- 'laws.FnExactCyclesOf': WHATEVER THE INPUT: true; the input reads as it did. -/
def fnExactCyclesOfSpec : ChangeSpec := { name := "fnExactCyclesOf", fn := fun _ => fun
  | [d] => { results := [.lit (.bool true)], args := [d] }
  | _ => none }
def fnExactCyclesOfRow : OpenClaim := { program := "ytogkfcjebabloaa", sum := "db3aaeedfb3e0ab5028e453eb511fcad69a84d553658a7f3f2e4117933006b3e", func := "loop.example/g01209/laws.FnExactCyclesOf", spec := "fnExactCyclesOf", apart := false }
def FnExactCyclesOfSaid : Prop := fnExactCyclesOfRow.holds Try.pinned (OpenSpec.ofChange fnExactCyclesOfSpec)

/-- ITS FALSE NEIGHBOUR: 'it returns false'. Refute it at one input. -/
def fnExactCyclesOfWrong : ChangeSpec := { name := "fnExactCyclesOf", fn := fun _ => fun
  | [d] => { results := [.lit (.bool false)], args := [d] }
  | _ => none }
def FnExactCyclesOfWrongFalsely : Prop := fnExactCyclesOfRow.holds Try.pinned (OpenSpec.ofChange fnExactCyclesOfWrong)

/- THE SECOND FORM. 'bulk': how many values and letters a reading holds, each counted each time it is reached (what is shared counts as often as it is met; a slice's spare places count too). A statement '..UptoSaid' is the law's where the arguments, and the package variables that the reading takes, are together of bulk at most 1048576: NARROWER than '..Said'. Prove '..Said' where nothing that the law and all that it calls make is longer than what came in: it says more and counts as full. Else prove '..UptoSaid'. A law counts once. -/
mutual
def uptoBulk {H : Type} : DataW H → Nat
  | .lit (.string bytes) => bytes.length + 1
  | .lit _ => 1
  | .nil => 1
  | .ptr d => uptoBulk d + 1
  | .slice elems spare => uptoBulkAll elems + uptoBulkAll spare + 1
  | .agg parts => uptoBulkAll parts + 1
  | .iface _ d => uptoBulk d + 1
  | .map entries => uptoBulkEntries entries + 1
  | .held _ => 1
def uptoBulkAll {H : Type} : List (DataW H) → Nat
  | [] => 0
  | d :: r => uptoBulk d + uptoBulkAll r
def uptoBulkEntries {H : Type} : List (Lit × DataW H) → Nat
  | [] => 0
  | x :: r => uptoBulkEntry x + uptoBulkEntries r
def uptoBulkEntry {H : Type} : Lit × DataW H → Nat
  | (.string bytes, d) => bytes.length + uptoBulk d + 1
  | (_, d) => uptoBulk d + 1
 end
def uptoSmall : (H : Type) → List (DataW H) → Bool := fun _ ds => decide (uptoBulkAll ds ≤ 1048576)
def OpenSpec.upto (s : _root_.Go.ChangeSpec) : _root_.Go.OpenSpec := { _root_.Go.OpenSpec.ofChange s with cond := some uptoSmall }

/-- 'laws.FnExactBackOrder', WHERE WHAT IT READS IS OF BULK AT MOST 1048576: true; the input reads as it did. -/
def fnExactBackOrderUptoRow : OpenClaim := { program := "ytogkfcjebabloaa", sum := "db3aaeedfb3e0ab5028e453eb511fcad69a84d553658a7f3f2e4117933006b3e", func := "loop.example/g01209/laws.FnExactBackOrder", spec := "fnExactBackOrder", apart := false, narrowed := true }
def FnExactBackOrderUptoSaid : Prop := fnExactBackOrderUptoRow.holds Try.pinned (OpenSpec.upto fnExactBackOrderSpec)

/-- 'laws.FnExactThenOrder', WHERE WHAT IT READS IS OF BULK AT MOST 1048576: true; the input reads as it did. -/
def fnExactThenOrderUptoRow : OpenClaim := { program := "ytogkfcjebabloaa", sum := "db3aaeedfb3e0ab5028e453eb511fcad69a84d553658a7f3f2e4117933006b3e", func := "loop.example/g01209/laws.FnExactThenOrder", spec := "fnExactThenOrder", apart := false, narrowed := true }
def FnExactThenOrderUptoSaid : Prop := fnExactThenOrderUptoRow.holds Try.pinned (OpenSpec.upto fnExactThenOrderSpec)

/-- 'laws.FnExactDescentsOf', WHERE WHAT IT READS IS OF BULK AT MOST 1048576: true; the input reads as it did. -/
def fnExactDescentsOfUptoRow : OpenClaim := { program := "ytogkfcjebabloaa", sum := "db3aaeedfb3e0ab5028e453eb511fcad69a84d553658a7f3f2e4117933006b3e", func := "loop.example/g01209/laws.FnExactDescentsOf", spec := "fnExactDescentsOf", apart := false, narrowed := true }
def FnExactDescentsOfUptoSaid : Prop := fnExactDescentsOfUptoRow.holds Try.pinned (OpenSpec.upto fnExactDescentsOfSpec)

/-- 'laws.FnExactSignOf', WHERE WHAT IT READS IS OF BULK AT MOST 1048576: true; the input reads as it did. -/
def fnExactSignOfUptoRow : OpenClaim := { program := "ytogkfcjebabloaa", sum := "db3aaeedfb3e0ab5028e453eb511fcad69a84d553658a7f3f2e4117933006b3e", func := "loop.example/g01209/laws.FnExactSignOf", spec := "fnExactSignOf", apart := false, narrowed := true }
def FnExactSignOfUptoSaid : Prop := fnExactSignOfUptoRow.holds Try.pinned (OpenSpec.upto fnExactSignOfSpec)

/-- 'laws.FnExactCodeOf', WHERE WHAT IT READS IS OF BULK AT MOST 1048576: true; the input reads as it did. -/
def fnExactCodeOfUptoRow : OpenClaim := { program := "ytogkfcjebabloaa", sum := "db3aaeedfb3e0ab5028e453eb511fcad69a84d553658a7f3f2e4117933006b3e", func := "loop.example/g01209/laws.FnExactCodeOf", spec := "fnExactCodeOf", apart := false, narrowed := true }
def FnExactCodeOfUptoSaid : Prop := fnExactCodeOfUptoRow.holds Try.pinned (OpenSpec.upto fnExactCodeOfSpec)

/-- 'laws.FnExactOrderTimes', WHERE WHAT IT READS IS OF BULK AT MOST 1048576: true; the input reads as it did. -/
def fnExactOrderTimesUptoRow : OpenClaim := { program := "ytogkfcjebabloaa", sum := "db3aaeedfb3e0ab5028e453eb511fcad69a84d553658a7f3f2e4117933006b3e", func := "loop.example/g01209/laws.FnExactOrderTimes", spec := "fnExactOrderTimes", apart := false, narrowed := true }
def FnExactOrderTimesUptoSaid : Prop := fnExactOrderTimesUptoRow.holds Try.pinned (OpenSpec.upto fnExactOrderTimesSpec)

/-- 'laws.FnExactInvertedPairs', WHERE WHAT IT READS IS OF BULK AT MOST 1048576: true; the input reads as it did. -/
def fnExactInvertedPairsUptoRow : OpenClaim := { program := "ytogkfcjebabloaa", sum := "db3aaeedfb3e0ab5028e453eb511fcad69a84d553658a7f3f2e4117933006b3e", func := "loop.example/g01209/laws.FnExactInvertedPairs", spec := "fnExactInvertedPairs", apart := false, narrowed := true }
def FnExactInvertedPairsUptoSaid : Prop := fnExactInvertedPairsUptoRow.holds Try.pinned (OpenSpec.upto fnExactInvertedPairsSpec)

/-- 'laws.FnExactCyclesOf', WHERE WHAT IT READS IS OF BULK AT MOST 1048576: true; the input reads as it did. -/
def fnExactCyclesOfUptoRow : OpenClaim := { program := "ytogkfcjebabloaa", sum := "db3aaeedfb3e0ab5028e453eb511fcad69a84d553658a7f3f2e4117933006b3e", func := "loop.example/g01209/laws.FnExactCyclesOf", spec := "fnExactCyclesOf", apart := false, narrowed := true }
def FnExactCyclesOfUptoSaid : Prop := fnExactCyclesOfUptoRow.holds Try.pinned (OpenSpec.upto fnExactCyclesOfSpec)

end Rows
end Go.Proofs.Ytogkfcjebabloaa
