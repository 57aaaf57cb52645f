/-
  No cell of these rows narrows 'for every input' (looked for: loops, veiled, ifaces, maps, wideKeys, modest, calm, conditions, laid).
  DERIVED. THE GIVEN ROWS OF THIS SEAT. 6 by the template 'for every input the law returns true; each argument reads behind the call as it read before'; 0 by the template 'total and deterministic' (their statements: YtjaahaeenagpfaaTotals.lean).
  GIVEN WITH THE SEED: the statements are not yours to turn. If you find one false, say at which input.
  Laid BY PROGRAM, IN A SANDBOX (cutbox-rows.mjs): the forced cells as the released guide's own fill.sh prints them over the translation 7f5689443ae23fe6… (all of the seat's roots in one cut). By AI agents, Wed Nov 11 2026. No macro, syntax, notation, axiom, sorry.
-/
import Derived.Test.YtjaahaeenagpfaaChecked
import GoSem.Claim
import GoSem.ClaimJoined
import GoSem.ClaimMapViews
import Derived.JoinedTies
import Derived.KernelRfl
namespace Go.Proofs.Ytjaahaeenagpfaa
/- THE CELL 'sum', in the pinned program and in every row, IS THE sha256 OF THE DUMP (.gsa) THAT YtjaahaeenagpfaaProg.lean LOADS. Nothing in Lean hashes anything: it is a label: what it is worth is what the hold of that sum in a sandbox is worth. -/
noncomputable def Try.pinned : Pinned := { name := "ytjaahaeenagpfaa", sum := "7f5689443ae23fe6a14138d866c688a82226adf28a56fb77c97b9684ff129ca7", checked := Try.checked }
namespace Rows
def none {H : Type} : Left H := { results := [], args := [] }

/-- 'laws.FnExactConstants': WHATEVER THE INPUT: true; the input reads as it did. -/
def fnExactConstantsSpec : ChangeSpec := { name := "fnExactConstants", fn := fun _ => fun
  | [] => { results := [.lit (.bool true)], args := [] }
  | _ => none }
def fnExactConstantsRow : OpenClaim := { program := "ytjaahaeenagpfaa", sum := "7f5689443ae23fe6a14138d866c688a82226adf28a56fb77c97b9684ff129ca7", func := "loop.example/g01209/laws.FnExactConstants", spec := "fnExactConstants", apart := false }
def FnExactConstantsSaid : Prop := fnExactConstantsRow.holds Try.pinned (OpenSpec.ofChange fnExactConstantsSpec)

/-- ITS FALSE NEIGHBOUR: 'it returns false'. Refute it at one input. -/
def fnExactConstantsWrong : ChangeSpec := { name := "fnExactConstants", fn := fun _ => fun
  | [] => { results := [.lit (.bool false)], args := [] }
  | _ => none }
def FnExactConstantsWrongFalsely : Prop := fnExactConstantsRow.holds Try.pinned (OpenSpec.ofChange fnExactConstantsWrong)

/-- 'laws.FnExactLongestByFormula': WHATEVER THE INPUT: true; the input reads as it did. -/
def fnExactLongestByFormulaSpec : ChangeSpec := { name := "fnExactLongestByFormula", fn := fun _ => fun
  | [d] => { results := [.lit (.bool true)], args := [d] }
  | _ => none }
def fnExactLongestByFormulaRow : OpenClaim := { program := "ytjaahaeenagpfaa", sum := "7f5689443ae23fe6a14138d866c688a82226adf28a56fb77c97b9684ff129ca7", func := "loop.example/g01209/laws.FnExactLongestByFormula", spec := "fnExactLongestByFormula", apart := false }
def FnExactLongestByFormulaSaid : Prop := fnExactLongestByFormulaRow.holds Try.pinned (OpenSpec.ofChange fnExactLongestByFormulaSpec)

/-- ITS FALSE NEIGHBOUR: 'it returns false'. Refute it at one input. -/
def fnExactLongestByFormulaWrong : ChangeSpec := { name := "fnExactLongestByFormula", fn := fun _ => fun
  | [d] => { results := [.lit (.bool false)], args := [d] }
  | _ => none }
def FnExactLongestByFormulaWrongFalsely : Prop := fnExactLongestByFormulaRow.holds Try.pinned (OpenSpec.ofChange fnExactLongestByFormulaWrong)

/-- 'laws.FnExactIsOrder': WHATEVER THE INPUT: true; the input reads as it did. -/
def fnExactIsOrderSpec : ChangeSpec := { name := "fnExactIsOrder", fn := fun _ => fun
  | [d] => { results := [.lit (.bool true)], args := [d] }
  | _ => none }
def fnExactIsOrderRow : OpenClaim := { program := "ytjaahaeenagpfaa", sum := "7f5689443ae23fe6a14138d866c688a82226adf28a56fb77c97b9684ff129ca7", func := "loop.example/g01209/laws.FnExactIsOrder", spec := "fnExactIsOrder", apart := false }
def FnExactIsOrderSaid : Prop := fnExactIsOrderRow.holds Try.pinned (OpenSpec.ofChange fnExactIsOrderSpec)

/-- ITS FALSE NEIGHBOUR: 'it returns false'. Refute it at one input. -/
def fnExactIsOrderWrong : ChangeSpec := { name := "fnExactIsOrder", fn := fun _ => fun
  | [d] => { results := [.lit (.bool false)], args := [d] }
  | _ => none }
def FnExactIsOrderWrongFalsely : Prop := fnExactIsOrderRow.holds Try.pinned (OpenSpec.ofChange fnExactIsOrderWrong)

/-- 'laws.FnExactIsLadder': WHATEVER THE INPUT: true; the input reads as it did. -/
def fnExactIsLadderSpec : ChangeSpec := { name := "fnExactIsLadder", fn := fun _ => fun
  | [d] => { results := [.lit (.bool true)], args := [d] }
  | _ => none }
def fnExactIsLadderRow : OpenClaim := { program := "ytjaahaeenagpfaa", sum := "7f5689443ae23fe6a14138d866c688a82226adf28a56fb77c97b9684ff129ca7", func := "loop.example/g01209/laws.FnExactIsLadder", spec := "fnExactIsLadder", unfollowed := true, recurses := true, apart := false }
def FnExactIsLadderSaid : Prop := fnExactIsLadderRow.holds Try.pinned (OpenSpec.ofChange fnExactIsLadderSpec)

/-- ITS FALSE NEIGHBOUR: 'it returns false'. Refute it at one input. -/
def fnExactIsLadderWrong : ChangeSpec := { name := "fnExactIsLadder", fn := fun _ => fun
  | [d] => { results := [.lit (.bool false)], args := [d] }
  | _ => none }
def FnExactIsLadderWrongFalsely : Prop := fnExactIsLadderRow.holds Try.pinned (OpenSpec.ofChange fnExactIsLadderWrong)

/-- 'laws.FnExactInversionsOf': WHATEVER THE INPUT: true; the input reads as it did. -/
def fnExactInversionsOfSpec : ChangeSpec := { name := "fnExactInversionsOf", fn := fun _ => fun
  | [d] => { results := [.lit (.bool true)], args := [d] }
  | _ => none }
def fnExactInversionsOfRow : OpenClaim := { program := "ytjaahaeenagpfaa", sum := "7f5689443ae23fe6a14138d866c688a82226adf28a56fb77c97b9684ff129ca7", func := "loop.example/g01209/laws.FnExactInversionsOf", spec := "fnExactInversionsOf", apart := false }
def FnExactInversionsOfSaid : Prop := fnExactInversionsOfRow.holds Try.pinned (OpenSpec.ofChange fnExactInversionsOfSpec)

/-- ITS FALSE NEIGHBOUR: 'it returns false'. Refute it at one input. -/
def fnExactInversionsOfWrong : ChangeSpec := { name := "fnExactInversionsOf", fn := fun _ => fun
  | [d] => { results := [.lit (.bool false)], args := [d] }
  | _ => none }
def FnExactInversionsOfWrongFalsely : Prop := fnExactInversionsOfRow.holds Try.pinned (OpenSpec.ofChange fnExactInversionsOfWrong)

/-- 'laws.FnExactOrderOfCode': WHATEVER THE INPUT: true; the input reads as it did. -/
def fnExactOrderOfCodeSpec : ChangeSpec := { name := "fnExactOrderOfCode", fn := fun _ => fun
  | [d] => { results := [.lit (.bool true)], args := [d] }
  | _ => none }
def fnExactOrderOfCodeRow : OpenClaim := { program := "ytjaahaeenagpfaa", sum := "7f5689443ae23fe6a14138d866c688a82226adf28a56fb77c97b9684ff129ca7", func := "loop.example/g01209/laws.FnExactOrderOfCode", spec := "fnExactOrderOfCode", apart := false }
def FnExactOrderOfCodeSaid : Prop := fnExactOrderOfCodeRow.holds Try.pinned (OpenSpec.ofChange fnExactOrderOfCodeSpec)

/-- ITS FALSE NEIGHBOUR: 'it returns false'. Refute it at one input. -/
def fnExactOrderOfCodeWrong : ChangeSpec := { name := "fnExactOrderOfCode", fn := fun _ => fun
  | [d] => { results := [.lit (.bool false)], args := [d] }
  | _ => none }
def FnExactOrderOfCodeWrongFalsely : Prop := fnExactOrderOfCodeRow.holds Try.pinned (OpenSpec.ofChange fnExactOrderOfCodeWrong)

/- THE SECOND FORM. 'bulk': how many values and letters a reading holds, each counted each time it is reached (what is shared counts as often as it is met; a slice's spare places count too). A statement '..UptoSaid' is the law's where the arguments, and the package variables that the reading takes, are together of bulk at most 1048576: NARROWER than '..Said'. Prove '..Said' where nothing that the law and all that it calls make is longer than what came in: it says more and counts as full. Else prove '..UptoSaid'. A law counts once. -/
mutual
def uptoBulk {H : Type} : DataW H → Nat
  | .lit (.string bytes) => bytes.length + 1
  | .lit _ => 1
  | .nil => 1
  | .ptr d => uptoBulk d + 1
  | .slice elems spare => uptoBulkAll elems + uptoBulkAll spare + 1
  | .agg parts => uptoBulkAll parts + 1
  | .iface _ d => uptoBulk d + 1
  | .map entries => uptoBulkEntries entries + 1
  | .held _ => 1
def uptoBulkAll {H : Type} : List (DataW H) → Nat
  | [] => 0
  | d :: r => uptoBulk d + uptoBulkAll r
def uptoBulkEntries {H : Type} : List (Lit × DataW H) → Nat
  | [] => 0
  | x :: r => uptoBulkEntry x + uptoBulkEntries r
def uptoBulkEntry {H : Type} : Lit × DataW H → Nat
  | (.string bytes, d) => bytes.length + uptoBulk d + 1
  | (_, d) => uptoBulk d + 1
 end
def uptoSmall : (H : Type) → List (DataW H) → Bool := fun _ ds => decide (uptoBulkAll ds ≤ 1048576)
def OpenSpec.upto (s : _root_.Go.ChangeSpec) : _root_.Go.OpenSpec := { _root_.Go.OpenSpec.ofChange s with cond := some uptoSmall }

/-- 'laws.FnExactConstants', WHERE WHAT IT READS IS OF BULK AT MOST 1048576: true; the input reads as it did. -/
def fnExactConstantsUptoRow : OpenClaim := { program := "ytjaahaeenagpfaa", sum := "7f5689443ae23fe6a14138d866c688a82226adf28a56fb77c97b9684ff129ca7", func := "loop.example/g01209/laws.FnExactConstants", spec := "fnExactConstants", apart := false, narrowed := true }
def FnExactConstantsUptoSaid : Prop := fnExactConstantsUptoRow.holds Try.pinned (OpenSpec.upto fnExactConstantsSpec)

/-- 'laws.FnExactLongestByFormula', WHERE WHAT IT READS IS OF BULK AT MOST 1048576: true; the input reads as it did. -/
def fnExactLongestByFormulaUptoRow : OpenClaim := { program := "ytjaahaeenagpfaa", sum := "7f5689443ae23fe6a14138d866c688a82226adf28a56fb77c97b9684ff129ca7", func := "loop.example/g01209/laws.FnExactLongestByFormula", spec := "fnExactLongestByFormula", apart := false, narrowed := true }
def FnExactLongestByFormulaUptoSaid : Prop := fnExactLongestByFormulaUptoRow.holds Try.pinned (OpenSpec.upto fnExactLongestByFormulaSpec)

/-- 'laws.FnExactIsOrder', WHERE WHAT IT READS IS OF BULK AT MOST 1048576: true; the input reads as it did. -/
def fnExactIsOrderUptoRow : OpenClaim := { program := "ytjaahaeenagpfaa", sum := "7f5689443ae23fe6a14138d866c688a82226adf28a56fb77c97b9684ff129ca7", func := "loop.example/g01209/laws.FnExactIsOrder", spec := "fnExactIsOrder", apart := false, narrowed := true }
def FnExactIsOrderUptoSaid : Prop := fnExactIsOrderUptoRow.holds Try.pinned (OpenSpec.upto fnExactIsOrderSpec)

/-- 'laws.FnExactIsLadder', WHERE WHAT IT READS IS OF BULK AT MOST 1048576: true; the input reads as it did. -/
def fnExactIsLadderUptoRow : OpenClaim := { program := "ytjaahaeenagpfaa", sum := "7f5689443ae23fe6a14138d866c688a82226adf28a56fb77c97b9684ff129ca7", func := "loop.example/g01209/laws.FnExactIsLadder", spec := "fnExactIsLadder", unfollowed := true, recurses := true, apart := false, narrowed := true }
def FnExactIsLadderUptoSaid : Prop := fnExactIsLadderUptoRow.holds Try.pinned (OpenSpec.upto fnExactIsLadderSpec)

/-- 'laws.FnExactInversionsOf', WHERE WHAT IT READS IS OF BULK AT MOST 1048576: true; the input reads as it did. -/
def fnExactInversionsOfUptoRow : OpenClaim := { program := "ytjaahaeenagpfaa", sum := "7f5689443ae23fe6a14138d866c688a82226adf28a56fb77c97b9684ff129ca7", func := "loop.example/g01209/laws.FnExactInversionsOf", spec := "fnExactInversionsOf", apart := false, narrowed := true }
def FnExactInversionsOfUptoSaid : Prop := fnExactInversionsOfUptoRow.holds Try.pinned (OpenSpec.upto fnExactInversionsOfSpec)

/-- 'laws.FnExactOrderOfCode', WHERE WHAT IT READS IS OF BULK AT MOST 1048576: true; the input reads as it did. -/
def fnExactOrderOfCodeUptoRow : OpenClaim := { program := "ytjaahaeenagpfaa", sum := "7f5689443ae23fe6a14138d866c688a82226adf28a56fb77c97b9684ff129ca7", func := "loop.example/g01209/laws.FnExactOrderOfCode", spec := "fnExactOrderOfCode", apart := false, narrowed := true }
def FnExactOrderOfCodeUptoSaid : Prop := fnExactOrderOfCodeUptoRow.holds Try.pinned (OpenSpec.upto fnExactOrderOfCodeSpec)

end Rows
end Go.Proofs.Ytjaahaeenagpfaa
