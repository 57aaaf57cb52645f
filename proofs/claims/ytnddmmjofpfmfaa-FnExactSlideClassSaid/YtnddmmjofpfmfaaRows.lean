/-
  No cell of these rows narrows 'for every input' (looked for: loops, veiled, ifaces, maps, wideKeys, modest, calm, conditions, laid).
  DERIVED. THE GIVEN ROWS OF THIS SEAT. 7 by the template 'for every input the law returns true; each argument reads behind the call as it read before'; 0 by the template 'total and deterministic' (their statements: YtnddmmjofpfmfaaTotals.lean).
  GIVEN WITH THE SEED: the statements are not yours to turn. If you find one false, say at which input.
  Laid BY PROGRAM, IN A SANDBOX (cutbox-rows.mjs): the forced cells as the released guide's own fill.sh prints them over the translation 6c2f916161598f16… (all of the seat's roots in one cut). By AI agents, Wed Nov 11 2026. No macro, syntax, notation, axiom, sorry.
-/
import Derived.Test.YtnddmmjofpfmfaaChecked
import GoSem.Claim
import GoSem.ClaimJoined
import GoSem.ClaimMapViews
import Derived.JoinedTies
import Derived.KernelRfl
namespace Go.Proofs.Ytnddmmjofpfmfaa
/- THE CELL 'sum', in the pinned program and in every row, IS THE sha256 OF THE DUMP (.gsa) THAT YtnddmmjofpfmfaaProg.lean LOADS. Nothing in Lean hashes anything: it is a label: what it is worth is what the hold of that sum in a sandbox is worth. -/
noncomputable def Try.pinned : Pinned := { name := "ytnddmmjofpfmfaa", sum := "6c2f916161598f1655113937b25ca53dba52a7a598bb8a8f87b1214467eb6068", checked := Try.checked }
namespace Rows
def none {H : Type} : Left H := { results := [], args := [] }

/-- 'laws.FnExactCountAllLeast': WHATEVER THE INPUT: true; the input reads as it did. -/
def fnExactCountAllLeastSpec : ChangeSpec := { name := "fnExactCountAllLeast", fn := fun _ => fun
  | [d] => { results := [.lit (.bool true)], args := [d] }
  | _ => none }
def fnExactCountAllLeastRow : OpenClaim := { program := "ytnddmmjofpfmfaa", sum := "6c2f916161598f1655113937b25ca53dba52a7a598bb8a8f87b1214467eb6068", func := "loop.example/g01209/laws.FnExactCountAllLeast", spec := "fnExactCountAllLeast", unfollowed := true, recurses := true, apart := false }
def FnExactCountAllLeastSaid : Prop := fnExactCountAllLeastRow.holds Try.pinned (OpenSpec.ofChange fnExactCountAllLeastSpec)

/-- ITS FALSE NEIGHBOUR: 'it returns false'. Refute it at one input. -/
def fnExactCountAllLeastWrong : ChangeSpec := { name := "fnExactCountAllLeast", fn := fun _ => fun
  | [d] => { results := [.lit (.bool false)], args := [d] }
  | _ => none }
def FnExactCountAllLeastWrongFalsely : Prop := fnExactCountAllLeastRow.holds Try.pinned (OpenSpec.ofChange fnExactCountAllLeastWrong)

/-- 'laws.FnExactCountByLength': WHATEVER THE INPUT: true; the input reads as it did. -/
def fnExactCountByLengthSpec : ChangeSpec := { name := "fnExactCountByLength", fn := fun _ => fun
  | [d] => { results := [.lit (.bool true)], args := [d] }
  | _ => none }
def fnExactCountByLengthRow : OpenClaim := { program := "ytnddmmjofpfmfaa", sum := "6c2f916161598f1655113937b25ca53dba52a7a598bb8a8f87b1214467eb6068", func := "loop.example/g01209/laws.FnExactCountByLength", spec := "fnExactCountByLength", unfollowed := true, recurses := true, apart := false }
def FnExactCountByLengthSaid : Prop := fnExactCountByLengthRow.holds Try.pinned (OpenSpec.ofChange fnExactCountByLengthSpec)

/-- ITS FALSE NEIGHBOUR: 'it returns false'. Refute it at one input. -/
def fnExactCountByLengthWrong : ChangeSpec := { name := "fnExactCountByLength", fn := fun _ => fun
  | [d] => { results := [.lit (.bool false)], args := [d] }
  | _ => none }
def FnExactCountByLengthWrongFalsely : Prop := fnExactCountByLengthRow.holds Try.pinned (OpenSpec.ofChange fnExactCountByLengthWrong)

/-- 'laws.FnExactLeastOfRank': WHATEVER THE INPUT: true; the input reads as it did. -/
def fnExactLeastOfRankSpec : ChangeSpec := { name := "fnExactLeastOfRank", fn := fun _ => fun
  | [d1, d2] => { results := [.lit (.bool true)], args := [d1, d2] }
  | _ => none }
def fnExactLeastOfRankRow : OpenClaim := { program := "ytnddmmjofpfmfaa", sum := "6c2f916161598f1655113937b25ca53dba52a7a598bb8a8f87b1214467eb6068", func := "loop.example/g01209/laws.FnExactLeastOfRank", spec := "fnExactLeastOfRank", recurses := true, apart := false }
def FnExactLeastOfRankSaid : Prop := fnExactLeastOfRankRow.holds Try.pinned (OpenSpec.ofChange fnExactLeastOfRankSpec)

/-- ITS FALSE NEIGHBOUR: 'it returns false'. Refute it at one input. -/
def fnExactLeastOfRankWrong : ChangeSpec := { name := "fnExactLeastOfRank", fn := fun _ => fun
  | [d1, d2] => { results := [.lit (.bool false)], args := [d1, d2] }
  | _ => none }
def FnExactLeastOfRankWrongFalsely : Prop := fnExactLeastOfRankRow.holds Try.pinned (OpenSpec.ofChange fnExactLeastOfRankWrong)

/-- 'laws.FnExactAllLeast': WHATEVER THE INPUT: true; the input reads as it did. -/
def fnExactAllLeastSpec : ChangeSpec := { name := "fnExactAllLeast", fn := fun _ => fun
  | [d] => { results := [.lit (.bool true)], args := [d] }
  | _ => none }
def fnExactAllLeastRow : OpenClaim := { program := "ytnddmmjofpfmfaa", sum := "6c2f916161598f1655113937b25ca53dba52a7a598bb8a8f87b1214467eb6068", func := "loop.example/g01209/laws.FnExactAllLeast", spec := "fnExactAllLeast", recurses := true, apart := false }
def FnExactAllLeastSaid : Prop := fnExactAllLeastRow.holds Try.pinned (OpenSpec.ofChange fnExactAllLeastSpec)

/-- ITS FALSE NEIGHBOUR: 'it returns false'. Refute it at one input. -/
def fnExactAllLeastWrong : ChangeSpec := { name := "fnExactAllLeast", fn := fun _ => fun
  | [d] => { results := [.lit (.bool false)], args := [d] }
  | _ => none }
def FnExactAllLeastWrongFalsely : Prop := fnExactAllLeastRow.holds Try.pinned (OpenSpec.ofChange fnExactAllLeastWrong)

/-- 'laws.FnExactSlideClass': WHATEVER THE INPUT: true; the input reads as it did. -/
def fnExactSlideClassSpec : ChangeSpec := { name := "fnExactSlideClass", fn := fun _ => fun
  | [d] => { results := [.lit (.bool true)], args := [d] }
  | _ => none }
def fnExactSlideClassRow : OpenClaim := { program := "ytnddmmjofpfmfaa", sum := "6c2f916161598f1655113937b25ca53dba52a7a598bb8a8f87b1214467eb6068", func := "loop.example/g01209/laws.FnExactSlideClass", spec := "fnExactSlideClass", unfollowed := true, recurses := true, apart := false }
def FnExactSlideClassSaid : Prop := fnExactSlideClassRow.holds Try.pinned (OpenSpec.ofChange fnExactSlideClassSpec)

/-- ITS FALSE NEIGHBOUR: 'it returns false'. Refute it at one input. -/
def fnExactSlideClassWrong : ChangeSpec := { name := "fnExactSlideClass", fn := fun _ => fun
  | [d] => { results := [.lit (.bool false)], args := [d] }
  | _ => none }
def FnExactSlideClassWrongFalsely : Prop := fnExactSlideClassRow.holds Try.pinned (OpenSpec.ofChange fnExactSlideClassWrong)

/-- 'laws.FnLongestCounted': WHATEVER THE INPUT: true; the input reads as it did. -/
def fnLongestCountedSpec : ChangeSpec := { name := "fnLongestCounted", fn := fun _ => fun
  | [d1, d2] => { results := [.lit (.bool true)], args := [d1, d2] }
  | _ => none }
def fnLongestCountedRow : OpenClaim := { program := "ytnddmmjofpfmfaa", sum := "6c2f916161598f1655113937b25ca53dba52a7a598bb8a8f87b1214467eb6068", func := "loop.example/g01209/laws.FnLongestCounted", spec := "fnLongestCounted", unfollowed := true, recurses := true, apart := false }
def FnLongestCountedSaid : Prop := fnLongestCountedRow.holds Try.pinned (OpenSpec.ofChange fnLongestCountedSpec)

/-- ITS FALSE NEIGHBOUR: 'it returns false'. Refute it at one input. -/
def fnLongestCountedWrong : ChangeSpec := { name := "fnLongestCounted", fn := fun _ => fun
  | [d1, d2] => { results := [.lit (.bool false)], args := [d1, d2] }
  | _ => none }
def FnLongestCountedWrongFalsely : Prop := fnLongestCountedRow.holds Try.pinned (OpenSpec.ofChange fnLongestCountedWrong)

/-- 'laws.FnLeastListed': WHATEVER THE INPUT: true; the input reads as it did. -/
def fnLeastListedSpec : ChangeSpec := { name := "fnLeastListed", fn := fun _ => fun
  | [d1, d2] => { results := [.lit (.bool true)], args := [d1, d2] }
  | _ => none }
def fnLeastListedRow : OpenClaim := { program := "ytnddmmjofpfmfaa", sum := "6c2f916161598f1655113937b25ca53dba52a7a598bb8a8f87b1214467eb6068", func := "loop.example/g01209/laws.FnLeastListed", spec := "fnLeastListed", unfollowed := true, recurses := true, apart := false }
def FnLeastListedSaid : Prop := fnLeastListedRow.holds Try.pinned (OpenSpec.ofChange fnLeastListedSpec)

/-- ITS FALSE NEIGHBOUR: 'it returns false'. Refute it at one input. -/
def fnLeastListedWrong : ChangeSpec := { name := "fnLeastListed", fn := fun _ => fun
  | [d1, d2] => { results := [.lit (.bool false)], args := [d1, d2] }
  | _ => none }
def FnLeastListedWrongFalsely : Prop := fnLeastListedRow.holds Try.pinned (OpenSpec.ofChange fnLeastListedWrong)

/- THE SECOND FORM. 'bulk': how many values and letters a reading holds, each counted each time it is reached (what is shared counts as often as it is met; a slice's spare places count too). A statement '..UptoSaid' is the law's where the arguments, and the package variables that the reading takes, are together of bulk at most 1048576: NARROWER than '..Said'. Prove '..Said' where nothing that the law and all that it calls make is longer than what came in: it says more and counts as full. Else prove '..UptoSaid'. A law counts once. -/
mutual
def uptoBulk {H : Type} : DataW H → Nat
  | .lit (.string bytes) => bytes.length + 1
  | .lit _ => 1
  | .nil => 1
  | .ptr d => uptoBulk d + 1
  | .slice elems spare => uptoBulkAll elems + uptoBulkAll spare + 1
  | .agg parts => uptoBulkAll parts + 1
  | .iface _ d => uptoBulk d + 1
  | .map entries => uptoBulkEntries entries + 1
  | .held _ => 1
def uptoBulkAll {H : Type} : List (DataW H) → Nat
  | [] => 0
  | d :: r => uptoBulk d + uptoBulkAll r
def uptoBulkEntries {H : Type} : List (Lit × DataW H) → Nat
  | [] => 0
  | x :: r => uptoBulkEntry x + uptoBulkEntries r
def uptoBulkEntry {H : Type} : Lit × DataW H → Nat
  | (.string bytes, d) => bytes.length + uptoBulk d + 1
  | (_, d) => uptoBulk d + 1
 end
def uptoSmall : (H : Type) → List (DataW H) → Bool := fun _ ds => decide (uptoBulkAll ds ≤ 1048576)
def OpenSpec.upto (s : _root_.Go.ChangeSpec) : _root_.Go.OpenSpec := { _root_.Go.OpenSpec.ofChange s with cond := some uptoSmall }

/-- 'laws.FnExactCountAllLeast', WHERE WHAT IT READS IS OF BULK AT MOST 1048576: true; the input reads as it did. -/
def fnExactCountAllLeastUptoRow : OpenClaim := { program := "ytnddmmjofpfmfaa", sum := "6c2f916161598f1655113937b25ca53dba52a7a598bb8a8f87b1214467eb6068", func := "loop.example/g01209/laws.FnExactCountAllLeast", spec := "fnExactCountAllLeast", unfollowed := true, recurses := true, apart := false, narrowed := true }
def FnExactCountAllLeastUptoSaid : Prop := fnExactCountAllLeastUptoRow.holds Try.pinned (OpenSpec.upto fnExactCountAllLeastSpec)

/-- 'laws.FnExactCountByLength', WHERE WHAT IT READS IS OF BULK AT MOST 1048576: true; the input reads as it did. -/
def fnExactCountByLengthUptoRow : OpenClaim := { program := "ytnddmmjofpfmfaa", sum := "6c2f916161598f1655113937b25ca53dba52a7a598bb8a8f87b1214467eb6068", func := "loop.example/g01209/laws.FnExactCountByLength", spec := "fnExactCountByLength", unfollowed := true, recurses := true, apart := false, narrowed := true }
def FnExactCountByLengthUptoSaid : Prop := fnExactCountByLengthUptoRow.holds Try.pinned (OpenSpec.upto fnExactCountByLengthSpec)

/-- 'laws.FnExactLeastOfRank', WHERE WHAT IT READS IS OF BULK AT MOST 1048576: true; the input reads as it did. -/
def fnExactLeastOfRankUptoRow : OpenClaim := { program := "ytnddmmjofpfmfaa", sum := "6c2f916161598f1655113937b25ca53dba52a7a598bb8a8f87b1214467eb6068", func := "loop.example/g01209/laws.FnExactLeastOfRank", spec := "fnExactLeastOfRank", recurses := true, apart := false, narrowed := true }
def FnExactLeastOfRankUptoSaid : Prop := fnExactLeastOfRankUptoRow.holds Try.pinned (OpenSpec.upto fnExactLeastOfRankSpec)

/-- 'laws.FnExactAllLeast', WHERE WHAT IT READS IS OF BULK AT MOST 1048576: true; the input reads as it did. -/
def fnExactAllLeastUptoRow : OpenClaim := { program := "ytnddmmjofpfmfaa", sum := "6c2f916161598f1655113937b25ca53dba52a7a598bb8a8f87b1214467eb6068", func := "loop.example/g01209/laws.FnExactAllLeast", spec := "fnExactAllLeast", recurses := true, apart := false, narrowed := true }
def FnExactAllLeastUptoSaid : Prop := fnExactAllLeastUptoRow.holds Try.pinned (OpenSpec.upto fnExactAllLeastSpec)

/-- 'laws.FnExactSlideClass', WHERE WHAT IT READS IS OF BULK AT MOST 1048576: true; the input reads as it did. -/
def fnExactSlideClassUptoRow : OpenClaim := { program := "ytnddmmjofpfmfaa", sum := "6c2f916161598f1655113937b25ca53dba52a7a598bb8a8f87b1214467eb6068", func := "loop.example/g01209/laws.FnExactSlideClass", spec := "fnExactSlideClass", unfollowed := true, recurses := true, apart := false, narrowed := true }
def FnExactSlideClassUptoSaid : Prop := fnExactSlideClassUptoRow.holds Try.pinned (OpenSpec.upto fnExactSlideClassSpec)

/-- 'laws.FnLongestCounted', WHERE WHAT IT READS IS OF BULK AT MOST 1048576: true; the input reads as it did. -/
def fnLongestCountedUptoRow : OpenClaim := { program := "ytnddmmjofpfmfaa", sum := "6c2f916161598f1655113937b25ca53dba52a7a598bb8a8f87b1214467eb6068", func := "loop.example/g01209/laws.FnLongestCounted", spec := "fnLongestCounted", unfollowed := true, recurses := true, apart := false, narrowed := true }
def FnLongestCountedUptoSaid : Prop := fnLongestCountedUptoRow.holds Try.pinned (OpenSpec.upto fnLongestCountedSpec)

/-- 'laws.FnLeastListed', WHERE WHAT IT READS IS OF BULK AT MOST 1048576: true; the input reads as it did. -/
def fnLeastListedUptoRow : OpenClaim := { program := "ytnddmmjofpfmfaa", sum := "6c2f916161598f1655113937b25ca53dba52a7a598bb8a8f87b1214467eb6068", func := "loop.example/g01209/laws.FnLeastListed", spec := "fnLeastListed", unfollowed := true, recurses := true, apart := false, narrowed := true }
def FnLeastListedUptoSaid : Prop := fnLeastListedUptoRow.holds Try.pinned (OpenSpec.upto fnLeastListedSpec)

end Rows
end Go.Proofs.Ytnddmmjofpfmfaa
