/-
  No cell of these rows narrows 'for every input' (looked for: loops, veiled, ifaces, maps, wideKeys, modest, calm, conditions, laid).
  DERIVED. THE GIVEN ROWS OF THIS SEAT. 7 by the template 'for every input the law returns true; each argument reads behind the call as it read before'; 0 by the template 'total and deterministic' (their statements: YtheeffchjdkhnaaTotals.lean).
  GIVEN WITH THE SEED: the statements are not yours to turn. If you find one false, say at which input.
  Laid BY PROGRAM, IN A SANDBOX (cutbox-rows.mjs): the forced cells as the released guide's own fill.sh prints them over the translation b7aacc6f12110373… (all of the seat's roots in one cut). By AI agents, Wed Nov 11 2026. No macro, syntax, notation, axiom, sorry.
-/
import Derived.Test.YtheeffchjdkhnaaChecked
import GoSem.Claim
import GoSem.ClaimJoined
import GoSem.ClaimMapViews
import Derived.JoinedTies
import Derived.KernelRfl
namespace Go.Proofs.Ytheeffchjdkhnaa
/- THE CELL 'sum', in the pinned program and in every row, IS THE sha256 OF THE DUMP (.gsa) THAT YtheeffchjdkhnaaProg.lean LOADS. Nothing in Lean hashes anything: it is a label: what it is worth is what the hold of that sum in a sandbox is worth. -/
noncomputable def Try.pinned : Pinned := { name := "ytheeffchjdkhnaa", sum := "b7aacc6f121103736ccfcf8a992f4895fce8c91a12440e75e8adf20164aa384b", checked := Try.checked }
namespace Rows
def none {H : Type} : Left H := { results := [], args := [] }

/-- 'laws.FnExactCountLeast': WHATEVER THE INPUT: true; the input reads as it did. -/
def fnExactCountLeastSpec : ChangeSpec := { name := "fnExactCountLeast", fn := fun _ => fun
  | [d] => { results := [.lit (.bool true)], args := [d] }
  | _ => none }
def fnExactCountLeastRow : OpenClaim := { program := "ytheeffchjdkhnaa", sum := "b7aacc6f121103736ccfcf8a992f4895fce8c91a12440e75e8adf20164aa384b", func := "loop.example/g01209/laws.FnExactCountLeast", spec := "fnExactCountLeast", recurses := true, apart := false }
def FnExactCountLeastSaid : Prop := fnExactCountLeastRow.holds Try.pinned (OpenSpec.ofChange fnExactCountLeastSpec)

/-- ITS FALSE NEIGHBOUR: 'it returns false'. Refute it at one input. -/
def fnExactCountLeastWrong : ChangeSpec := { name := "fnExactCountLeast", fn := fun _ => fun
  | [d] => { results := [.lit (.bool false)], args := [d] }
  | _ => none }
def FnExactCountLeastWrongFalsely : Prop := fnExactCountLeastRow.holds Try.pinned (OpenSpec.ofChange fnExactCountLeastWrong)

/-- 'laws.FnExactCountFirst': WHATEVER THE INPUT: true; the input reads as it did. -/
def fnExactCountFirstSpec : ChangeSpec := { name := "fnExactCountFirst", fn := fun _ => fun
  | [d1, d2] => { results := [.lit (.bool true)], args := [d1, d2] }
  | _ => none }
def fnExactCountFirstRow : OpenClaim := { program := "ytheeffchjdkhnaa", sum := "b7aacc6f121103736ccfcf8a992f4895fce8c91a12440e75e8adf20164aa384b", func := "loop.example/g01209/laws.FnExactCountFirst", spec := "fnExactCountFirst", recurses := true, apart := false }
def FnExactCountFirstSaid : Prop := fnExactCountFirstRow.holds Try.pinned (OpenSpec.ofChange fnExactCountFirstSpec)

/-- ITS FALSE NEIGHBOUR: 'it returns false'. Refute it at one input. -/
def fnExactCountFirstWrong : ChangeSpec := { name := "fnExactCountFirst", fn := fun _ => fun
  | [d1, d2] => { results := [.lit (.bool false)], args := [d1, d2] }
  | _ => none }
def FnExactCountFirstWrongFalsely : Prop := fnExactCountFirstRow.holds Try.pinned (OpenSpec.ofChange fnExactCountFirstWrong)

/-- 'laws.FnExactLeastOfRank': WHATEVER THE INPUT: true; the input reads as it did. -/
def fnExactLeastOfRankSpec : ChangeSpec := { name := "fnExactLeastOfRank", fn := fun _ => fun
  | [d1, d2] => { results := [.lit (.bool true)], args := [d1, d2] }
  | _ => none }
def fnExactLeastOfRankRow : OpenClaim := { program := "ytheeffchjdkhnaa", sum := "b7aacc6f121103736ccfcf8a992f4895fce8c91a12440e75e8adf20164aa384b", func := "loop.example/g01209/laws.FnExactLeastOfRank", spec := "fnExactLeastOfRank", recurses := true, apart := false }
def FnExactLeastOfRankSaid : Prop := fnExactLeastOfRankRow.holds Try.pinned (OpenSpec.ofChange fnExactLeastOfRankSpec)

/-- ITS FALSE NEIGHBOUR: 'it returns false'. Refute it at one input. -/
def fnExactLeastOfRankWrong : ChangeSpec := { name := "fnExactLeastOfRank", fn := fun _ => fun
  | [d1, d2] => { results := [.lit (.bool false)], args := [d1, d2] }
  | _ => none }
def FnExactLeastOfRankWrongFalsely : Prop := fnExactLeastOfRankRow.holds Try.pinned (OpenSpec.ofChange fnExactLeastOfRankWrong)

/-- 'laws.FnExactRankOfLeast': WHATEVER THE INPUT: true; the input reads as it did. -/
def fnExactRankOfLeastSpec : ChangeSpec := { name := "fnExactRankOfLeast", fn := fun _ => fun
  | [d] => { results := [.lit (.bool true)], args := [d] }
  | _ => none }
def fnExactRankOfLeastRow : OpenClaim := { program := "ytheeffchjdkhnaa", sum := "b7aacc6f121103736ccfcf8a992f4895fce8c91a12440e75e8adf20164aa384b", func := "loop.example/g01209/laws.FnExactRankOfLeast", spec := "fnExactRankOfLeast", unfollowed := true, recurses := true, apart := false }
def FnExactRankOfLeastSaid : Prop := fnExactRankOfLeastRow.holds Try.pinned (OpenSpec.ofChange fnExactRankOfLeastSpec)

/-- ITS FALSE NEIGHBOUR: 'it returns false'. Refute it at one input. -/
def fnExactRankOfLeastWrong : ChangeSpec := { name := "fnExactRankOfLeast", fn := fun _ => fun
  | [d] => { results := [.lit (.bool false)], args := [d] }
  | _ => none }
def FnExactRankOfLeastWrongFalsely : Prop := fnExactRankOfLeastRow.holds Try.pinned (OpenSpec.ofChange fnExactRankOfLeastWrong)

/-- 'laws.FnExactAllLeast': WHATEVER THE INPUT: true; the input reads as it did. -/
def fnExactAllLeastSpec : ChangeSpec := { name := "fnExactAllLeast", fn := fun _ => fun
  | [d] => { results := [.lit (.bool true)], args := [d] }
  | _ => none }
def fnExactAllLeastRow : OpenClaim := { program := "ytheeffchjdkhnaa", sum := "b7aacc6f121103736ccfcf8a992f4895fce8c91a12440e75e8adf20164aa384b", func := "loop.example/g01209/laws.FnExactAllLeast", spec := "fnExactAllLeast", recurses := true, apart := false }
def FnExactAllLeastSaid : Prop := fnExactAllLeastRow.holds Try.pinned (OpenSpec.ofChange fnExactAllLeastSpec)

/-- ITS FALSE NEIGHBOUR: 'it returns false'. Refute it at one input. -/
def fnExactAllLeastWrong : ChangeSpec := { name := "fnExactAllLeast", fn := fun _ => fun
  | [d] => { results := [.lit (.bool false)], args := [d] }
  | _ => none }
def FnExactAllLeastWrongFalsely : Prop := fnExactAllLeastRow.holds Try.pinned (OpenSpec.ofChange fnExactAllLeastWrong)

/-- 'laws.FnExactCountByLength': WHATEVER THE INPUT: true; the input reads as it did. -/
def fnExactCountByLengthSpec : ChangeSpec := { name := "fnExactCountByLength", fn := fun _ => fun
  | [d] => { results := [.lit (.bool true)], args := [d] }
  | _ => none }
def fnExactCountByLengthRow : OpenClaim := { program := "ytheeffchjdkhnaa", sum := "b7aacc6f121103736ccfcf8a992f4895fce8c91a12440e75e8adf20164aa384b", func := "loop.example/g01209/laws.FnExactCountByLength", spec := "fnExactCountByLength", unfollowed := true, recurses := true, apart := false }
def FnExactCountByLengthSaid : Prop := fnExactCountByLengthRow.holds Try.pinned (OpenSpec.ofChange fnExactCountByLengthSpec)

/-- ITS FALSE NEIGHBOUR: 'it returns false'. Refute it at one input. -/
def fnExactCountByLengthWrong : ChangeSpec := { name := "fnExactCountByLength", fn := fun _ => fun
  | [d] => { results := [.lit (.bool false)], args := [d] }
  | _ => none }
def FnExactCountByLengthWrongFalsely : Prop := fnExactCountByLengthRow.holds Try.pinned (OpenSpec.ofChange fnExactCountByLengthWrong)

/-- 'laws.FnExactCountAllLeast': WHATEVER THE INPUT: true; the input reads as it did. -/
def fnExactCountAllLeastSpec : ChangeSpec := { name := "fnExactCountAllLeast", fn := fun _ => fun
  | [d] => { results := [.lit (.bool true)], args := [d] }
  | _ => none }
def fnExactCountAllLeastRow : OpenClaim := { program := "ytheeffchjdkhnaa", sum := "b7aacc6f121103736ccfcf8a992f4895fce8c91a12440e75e8adf20164aa384b", func := "loop.example/g01209/laws.FnExactCountAllLeast", spec := "fnExactCountAllLeast", unfollowed := true, recurses := true, apart := false }
def FnExactCountAllLeastSaid : Prop := fnExactCountAllLeastRow.holds Try.pinned (OpenSpec.ofChange fnExactCountAllLeastSpec)

/-- ITS FALSE NEIGHBOUR: 'it returns false'. Refute it at one input. -/
def fnExactCountAllLeastWrong : ChangeSpec := { name := "fnExactCountAllLeast", fn := fun _ => fun
  | [d] => { results := [.lit (.bool false)], args := [d] }
  | _ => none }
def FnExactCountAllLeastWrongFalsely : Prop := fnExactCountAllLeastRow.holds Try.pinned (OpenSpec.ofChange fnExactCountAllLeastWrong)

/- THE SECOND FORM. 'bulk': how many values and letters a reading holds, each counted each time it is reached (what is shared counts as often as it is met; a slice's spare places count too). A statement '..UptoSaid' is the law's where the arguments, and the package variables that the reading takes, are together of bulk at most 1048576: NARROWER than '..Said'. Prove '..Said' where nothing that the law and all that it calls make is longer than what came in: it says more and counts as full. Else prove '..UptoSaid'. A law counts once. -/
mutual
def uptoBulk {H : Type} : DataW H → Nat
  | .lit (.string bytes) => bytes.length + 1
  | .lit _ => 1
  | .nil => 1
  | .ptr d => uptoBulk d + 1
  | .slice elems spare => uptoBulkAll elems + uptoBulkAll spare + 1
  | .agg parts => uptoBulkAll parts + 1
  | .iface _ d => uptoBulk d + 1
  | .map entries => uptoBulkEntries entries + 1
  | .held _ => 1
def uptoBulkAll {H : Type} : List (DataW H) → Nat
  | [] => 0
  | d :: r => uptoBulk d + uptoBulkAll r
def uptoBulkEntries {H : Type} : List (Lit × DataW H) → Nat
  | [] => 0
  | x :: r => uptoBulkEntry x + uptoBulkEntries r
def uptoBulkEntry {H : Type} : Lit × DataW H → Nat
  | (.string bytes, d) => bytes.length + uptoBulk d + 1
  | (_, d) => uptoBulk d + 1
 end
def uptoSmall : (H : Type) → List (DataW H) → Bool := fun _ ds => decide (uptoBulkAll ds ≤ 1048576)
def OpenSpec.upto (s : _root_.Go.ChangeSpec) : _root_.Go.OpenSpec := { _root_.Go.OpenSpec.ofChange s with cond := some uptoSmall }

/-- 'laws.FnExactCountLeast', WHERE WHAT IT READS IS OF BULK AT MOST 1048576: true; the input reads as it did. -/
def fnExactCountLeastUptoRow : OpenClaim := { program := "ytheeffchjdkhnaa", sum := "b7aacc6f121103736ccfcf8a992f4895fce8c91a12440e75e8adf20164aa384b", func := "loop.example/g01209/laws.FnExactCountLeast", spec := "fnExactCountLeast", recurses := true, apart := false, narrowed := true }
def FnExactCountLeastUptoSaid : Prop := fnExactCountLeastUptoRow.holds Try.pinned (OpenSpec.upto fnExactCountLeastSpec)

/-- 'laws.FnExactCountFirst', WHERE WHAT IT READS IS OF BULK AT MOST 1048576: true; the input reads as it did. -/
def fnExactCountFirstUptoRow : OpenClaim := { program := "ytheeffchjdkhnaa", sum := "b7aacc6f121103736ccfcf8a992f4895fce8c91a12440e75e8adf20164aa384b", func := "loop.example/g01209/laws.FnExactCountFirst", spec := "fnExactCountFirst", recurses := true, apart := false, narrowed := true }
def FnExactCountFirstUptoSaid : Prop := fnExactCountFirstUptoRow.holds Try.pinned (OpenSpec.upto fnExactCountFirstSpec)

/-- 'laws.FnExactLeastOfRank', WHERE WHAT IT READS IS OF BULK AT MOST 1048576: true; the input reads as it did. -/
def fnExactLeastOfRankUptoRow : OpenClaim := { program := "ytheeffchjdkhnaa", sum := "b7aacc6f121103736ccfcf8a992f4895fce8c91a12440e75e8adf20164aa384b", func := "loop.example/g01209/laws.FnExactLeastOfRank", spec := "fnExactLeastOfRank", recurses := true, apart := false, narrowed := true }
def FnExactLeastOfRankUptoSaid : Prop := fnExactLeastOfRankUptoRow.holds Try.pinned (OpenSpec.upto fnExactLeastOfRankSpec)

/-- 'laws.FnExactRankOfLeast', WHERE WHAT IT READS IS OF BULK AT MOST 1048576: true; the input reads as it did. -/
def fnExactRankOfLeastUptoRow : OpenClaim := { program := "ytheeffchjdkhnaa", sum := "b7aacc6f121103736ccfcf8a992f4895fce8c91a12440e75e8adf20164aa384b", func := "loop.example/g01209/laws.FnExactRankOfLeast", spec := "fnExactRankOfLeast", unfollowed := true, recurses := true, apart := false, narrowed := true }
def FnExactRankOfLeastUptoSaid : Prop := fnExactRankOfLeastUptoRow.holds Try.pinned (OpenSpec.upto fnExactRankOfLeastSpec)

/-- 'laws.FnExactAllLeast', WHERE WHAT IT READS IS OF BULK AT MOST 1048576: true; the input reads as it did. -/
def fnExactAllLeastUptoRow : OpenClaim := { program := "ytheeffchjdkhnaa", sum := "b7aacc6f121103736ccfcf8a992f4895fce8c91a12440e75e8adf20164aa384b", func := "loop.example/g01209/laws.FnExactAllLeast", spec := "fnExactAllLeast", recurses := true, apart := false, narrowed := true }
def FnExactAllLeastUptoSaid : Prop := fnExactAllLeastUptoRow.holds Try.pinned (OpenSpec.upto fnExactAllLeastSpec)

/-- 'laws.FnExactCountByLength', WHERE WHAT IT READS IS OF BULK AT MOST 1048576: true; the input reads as it did. -/
def fnExactCountByLengthUptoRow : OpenClaim := { program := "ytheeffchjdkhnaa", sum := "b7aacc6f121103736ccfcf8a992f4895fce8c91a12440e75e8adf20164aa384b", func := "loop.example/g01209/laws.FnExactCountByLength", spec := "fnExactCountByLength", unfollowed := true, recurses := true, apart := false, narrowed := true }
def FnExactCountByLengthUptoSaid : Prop := fnExactCountByLengthUptoRow.holds Try.pinned (OpenSpec.upto fnExactCountByLengthSpec)

/-- 'laws.FnExactCountAllLeast', WHERE WHAT IT READS IS OF BULK AT MOST 1048576: true; the input reads as it did. -/
def fnExactCountAllLeastUptoRow : OpenClaim := { program := "ytheeffchjdkhnaa", sum := "b7aacc6f121103736ccfcf8a992f4895fce8c91a12440e75e8adf20164aa384b", func := "loop.example/g01209/laws.FnExactCountAllLeast", spec := "fnExactCountAllLeast", unfollowed := true, recurses := true, apart := false, narrowed := true }
def FnExactCountAllLeastUptoSaid : Prop := fnExactCountAllLeastUptoRow.holds Try.pinned (OpenSpec.upto fnExactCountAllLeastSpec)

end Rows
end Go.Proofs.Ytheeffchjdkhnaa
