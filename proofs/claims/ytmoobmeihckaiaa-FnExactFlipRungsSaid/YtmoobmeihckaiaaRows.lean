/-
  No cell of these rows narrows 'for every input' (looked for: loops, veiled, ifaces, maps, wideKeys, modest, calm, conditions, laid).
  DERIVED. THE GIVEN ROWS OF THIS SEAT. 11 by the template 'for every input the law returns true; each argument reads behind the call as it read before'; 0 by the template 'total and deterministic' (their statements: YtmoobmeihckaiaaTotals.lean).
  GIVEN WITH THE SEED: the statements are not yours to turn. If you find one false, say at which input.
  Laid BY PROGRAM, IN A SANDBOX (cutbox-rows.mjs): the forced cells as the released guide's own fill.sh prints them over the translation 71525f2120b18ca3… (all of the seat's roots in one cut). By AI agents, Wed Nov 11 2026. No macro, syntax, notation, axiom, sorry.
-/
import Derived.Test.YtmoobmeihckaiaaChecked
import GoSem.Claim
import GoSem.ClaimJoined
import GoSem.ClaimMapViews
import Derived.JoinedTies
import Derived.KernelRfl
namespace Go.Proofs.Ytmoobmeihckaiaa
/- THE CELL 'sum', in the pinned program and in every row, IS THE sha256 OF THE DUMP (.gsa) THAT YtmoobmeihckaiaaProg.lean LOADS. Nothing in Lean hashes anything: it is a label: what it is worth is what the hold of that sum in a sandbox is worth. -/
noncomputable def Try.pinned : Pinned := { name := "ytmoobmeihckaiaa", sum := "71525f2120b18ca38140f7984b1ef1896646865f83e225ea1feaba351c5d8b1f", checked := Try.checked }
namespace Rows
def none {H : Type} : Left H := { results := [], args := [] }

/-- 'laws.FnExactTakeRung': WHATEVER THE INPUT: true; the input reads as it did. -/
def fnExactTakeRungSpec : ChangeSpec := { name := "fnExactTakeRung", fn := fun _ => fun
  | [d1, d2] => { results := [.lit (.bool true)], args := [d1, d2] }
  | _ => none }
def fnExactTakeRungRow : OpenClaim := { program := "ytmoobmeihckaiaa", sum := "71525f2120b18ca38140f7984b1ef1896646865f83e225ea1feaba351c5d8b1f", func := "loop.example/g01209/laws.FnExactTakeRung", spec := "fnExactTakeRung", unfollowed := true, recurses := true, apart := false }
def FnExactTakeRungSaid : Prop := fnExactTakeRungRow.holds Try.pinned (OpenSpec.ofChange fnExactTakeRungSpec)

/-- ITS FALSE NEIGHBOUR: 'it returns false'. Refute it at one input. -/
def fnExactTakeRungWrong : ChangeSpec := { name := "fnExactTakeRung", fn := fun _ => fun
  | [d1, d2] => { results := [.lit (.bool false)], args := [d1, d2] }
  | _ => none }
def FnExactTakeRungWrongFalsely : Prop := fnExactTakeRungRow.holds Try.pinned (OpenSpec.ofChange fnExactTakeRungWrong)

/-- 'laws.FnExactLongestLadder': WHATEVER THE INPUT: true; the input reads as it did. -/
def fnExactLongestLadderSpec : ChangeSpec := { name := "fnExactLongestLadder", fn := fun _ => fun
  | [d] => { results := [.lit (.bool true)], args := [d] }
  | _ => none }
def fnExactLongestLadderRow : OpenClaim := { program := "ytmoobmeihckaiaa", sum := "71525f2120b18ca38140f7984b1ef1896646865f83e225ea1feaba351c5d8b1f", func := "loop.example/g01209/laws.FnExactLongestLadder", spec := "fnExactLongestLadder", apart := false }
def FnExactLongestLadderSaid : Prop := fnExactLongestLadderRow.holds Try.pinned (OpenSpec.ofChange fnExactLongestLadderSpec)

/-- ITS FALSE NEIGHBOUR: 'it returns false'. Refute it at one input. -/
def fnExactLongestLadderWrong : ChangeSpec := { name := "fnExactLongestLadder", fn := fun _ => fun
  | [d] => { results := [.lit (.bool false)], args := [d] }
  | _ => none }
def FnExactLongestLadderWrongFalsely : Prop := fnExactLongestLadderRow.holds Try.pinned (OpenSpec.ofChange fnExactLongestLadderWrong)

/-- 'laws.FnExactLeastLadder': WHATEVER THE INPUT: true; the input reads as it did. -/
def fnExactLeastLadderSpec : ChangeSpec := { name := "fnExactLeastLadder", fn := fun _ => fun
  | [d] => { results := [.lit (.bool true)], args := [d] }
  | _ => none }
def fnExactLeastLadderRow : OpenClaim := { program := "ytmoobmeihckaiaa", sum := "71525f2120b18ca38140f7984b1ef1896646865f83e225ea1feaba351c5d8b1f", func := "loop.example/g01209/laws.FnExactLeastLadder", spec := "fnExactLeastLadder", apart := false }
def FnExactLeastLadderSaid : Prop := fnExactLeastLadderRow.holds Try.pinned (OpenSpec.ofChange fnExactLeastLadderSpec)

/-- ITS FALSE NEIGHBOUR: 'it returns false'. Refute it at one input. -/
def fnExactLeastLadderWrong : ChangeSpec := { name := "fnExactLeastLadder", fn := fun _ => fun
  | [d] => { results := [.lit (.bool false)], args := [d] }
  | _ => none }
def FnExactLeastLadderWrongFalsely : Prop := fnExactLeastLadderRow.holds Try.pinned (OpenSpec.ofChange fnExactLeastLadderWrong)

/-- 'laws.FnExactReduceLadder': WHATEVER THE INPUT: true; the input reads as it did. -/
def fnExactReduceLadderSpec : ChangeSpec := { name := "fnExactReduceLadder", fn := fun _ => fun
  | [d] => { results := [.lit (.bool true)], args := [d] }
  | _ => none }
def fnExactReduceLadderRow : OpenClaim := { program := "ytmoobmeihckaiaa", sum := "71525f2120b18ca38140f7984b1ef1896646865f83e225ea1feaba351c5d8b1f", func := "loop.example/g01209/laws.FnExactReduceLadder", spec := "fnExactReduceLadder", unfollowed := true, recurses := true, apart := false }
def FnExactReduceLadderSaid : Prop := fnExactReduceLadderRow.holds Try.pinned (OpenSpec.ofChange fnExactReduceLadderSpec)

/-- ITS FALSE NEIGHBOUR: 'it returns false'. Refute it at one input. -/
def fnExactReduceLadderWrong : ChangeSpec := { name := "fnExactReduceLadder", fn := fun _ => fun
  | [d] => { results := [.lit (.bool false)], args := [d] }
  | _ => none }
def FnExactReduceLadderWrongFalsely : Prop := fnExactReduceLadderRow.holds Try.pinned (OpenSpec.ofChange fnExactReduceLadderWrong)

/-- 'laws.FnExactSlideRung': WHATEVER THE INPUT: true; the input reads as it did. -/
def fnExactSlideRungSpec : ChangeSpec := { name := "fnExactSlideRung", fn := fun _ => fun
  | [d1, d2] => { results := [.lit (.bool true)], args := [d1, d2] }
  | _ => none }
def fnExactSlideRungRow : OpenClaim := { program := "ytmoobmeihckaiaa", sum := "71525f2120b18ca38140f7984b1ef1896646865f83e225ea1feaba351c5d8b1f", func := "loop.example/g01209/laws.FnExactSlideRung", spec := "fnExactSlideRung", unfollowed := true, recurses := true, apart := false }
def FnExactSlideRungSaid : Prop := fnExactSlideRungRow.holds Try.pinned (OpenSpec.ofChange fnExactSlideRungSpec)

/-- ITS FALSE NEIGHBOUR: 'it returns false'. Refute it at one input. -/
def fnExactSlideRungWrong : ChangeSpec := { name := "fnExactSlideRung", fn := fun _ => fun
  | [d1, d2] => { results := [.lit (.bool false)], args := [d1, d2] }
  | _ => none }
def FnExactSlideRungWrongFalsely : Prop := fnExactSlideRungRow.holds Try.pinned (OpenSpec.ofChange fnExactSlideRungWrong)

/-- 'laws.FnExactDropPair': WHATEVER THE INPUT: true; the input reads as it did. -/
def fnExactDropPairSpec : ChangeSpec := { name := "fnExactDropPair", fn := fun _ => fun
  | [d1, d2] => { results := [.lit (.bool true)], args := [d1, d2] }
  | _ => none }
def fnExactDropPairRow : OpenClaim := { program := "ytmoobmeihckaiaa", sum := "71525f2120b18ca38140f7984b1ef1896646865f83e225ea1feaba351c5d8b1f", func := "loop.example/g01209/laws.FnExactDropPair", spec := "fnExactDropPair", unfollowed := true, recurses := true, apart := false }
def FnExactDropPairSaid : Prop := fnExactDropPairRow.holds Try.pinned (OpenSpec.ofChange fnExactDropPairSpec)

/-- ITS FALSE NEIGHBOUR: 'it returns false'. Refute it at one input. -/
def fnExactDropPairWrong : ChangeSpec := { name := "fnExactDropPair", fn := fun _ => fun
  | [d1, d2] => { results := [.lit (.bool false)], args := [d1, d2] }
  | _ => none }
def FnExactDropPairWrongFalsely : Prop := fnExactDropPairRow.holds Try.pinned (OpenSpec.ofChange fnExactDropPairWrong)

/-- 'laws.FnExactFlipRungs': WHATEVER THE INPUT: true; the input reads as it did. -/
def fnExactFlipRungsSpec : ChangeSpec := { name := "fnExactFlipRungs", fn := fun _ => fun
  | [d1, d2] => { results := [.lit (.bool true)], args := [d1, d2] }
  | _ => none }
def fnExactFlipRungsRow : OpenClaim := { program := "ytmoobmeihckaiaa", sum := "71525f2120b18ca38140f7984b1ef1896646865f83e225ea1feaba351c5d8b1f", func := "loop.example/g01209/laws.FnExactFlipRungs", spec := "fnExactFlipRungs", inPlace := ["slices.overlaps[int]"], unfollowed := true, recurses := true, apart := false }
def FnExactFlipRungsSaid : Prop := fnExactFlipRungsRow.holds Try.pinned (OpenSpec.ofChange fnExactFlipRungsSpec)

/-- ITS FALSE NEIGHBOUR: 'it returns false'. Refute it at one input. -/
def fnExactFlipRungsWrong : ChangeSpec := { name := "fnExactFlipRungs", fn := fun _ => fun
  | [d1, d2] => { results := [.lit (.bool false)], args := [d1, d2] }
  | _ => none }
def FnExactFlipRungsWrongFalsely : Prop := fnExactFlipRungsRow.holds Try.pinned (OpenSpec.ofChange fnExactFlipRungsWrong)

/-- 'laws.FnExactAddRung': WHATEVER THE INPUT: true; the input reads as it did. -/
def fnExactAddRungSpec : ChangeSpec := { name := "fnExactAddRung", fn := fun _ => fun
  | [d1, d2, d3] => { results := [.lit (.bool true)], args := [d1, d2, d3] }
  | _ => none }
def fnExactAddRungRow : OpenClaim := { program := "ytmoobmeihckaiaa", sum := "71525f2120b18ca38140f7984b1ef1896646865f83e225ea1feaba351c5d8b1f", func := "loop.example/g01209/laws.FnExactAddRung", spec := "fnExactAddRung", inPlace := ["slices.overlaps[int]"], unfollowed := true, recurses := true, apart := false }
def FnExactAddRungSaid : Prop := fnExactAddRungRow.holds Try.pinned (OpenSpec.ofChange fnExactAddRungSpec)

/-- ITS FALSE NEIGHBOUR: 'it returns false'. Refute it at one input. -/
def fnExactAddRungWrong : ChangeSpec := { name := "fnExactAddRung", fn := fun _ => fun
  | [d1, d2, d3] => { results := [.lit (.bool false)], args := [d1, d2, d3] }
  | _ => none }
def FnExactAddRungWrongFalsely : Prop := fnExactAddRungRow.holds Try.pinned (OpenSpec.ofChange fnExactAddRungWrong)

/-- 'laws.FnExactAreSlides': WHATEVER THE INPUT: true; the input reads as it did. -/
def fnExactAreSlidesSpec : ChangeSpec := { name := "fnExactAreSlides", fn := fun _ => fun
  | [d1, d2] => { results := [.lit (.bool true)], args := [d1, d2] }
  | _ => none }
def fnExactAreSlidesRow : OpenClaim := { program := "ytmoobmeihckaiaa", sum := "71525f2120b18ca38140f7984b1ef1896646865f83e225ea1feaba351c5d8b1f", func := "loop.example/g01209/laws.FnExactAreSlides", spec := "fnExactAreSlides", unfollowed := true, recurses := true, apart := false }
def FnExactAreSlidesSaid : Prop := fnExactAreSlidesRow.holds Try.pinned (OpenSpec.ofChange fnExactAreSlidesSpec)

/-- ITS FALSE NEIGHBOUR: 'it returns false'. Refute it at one input. -/
def fnExactAreSlidesWrong : ChangeSpec := { name := "fnExactAreSlides", fn := fun _ => fun
  | [d1, d2] => { results := [.lit (.bool false)], args := [d1, d2] }
  | _ => none }
def FnExactAreSlidesWrongFalsely : Prop := fnExactAreSlidesRow.holds Try.pinned (OpenSpec.ofChange fnExactAreSlidesWrong)

/-- 'laws.FnExactFirstSame': WHATEVER THE INPUT: true; the input reads as it did. -/
def fnExactFirstSameSpec : ChangeSpec := { name := "fnExactFirstSame", fn := fun _ => fun
  | [d] => { results := [.lit (.bool true)], args := [d] }
  | _ => none }
def fnExactFirstSameRow : OpenClaim := { program := "ytmoobmeihckaiaa", sum := "71525f2120b18ca38140f7984b1ef1896646865f83e225ea1feaba351c5d8b1f", func := "loop.example/g01209/laws.FnExactFirstSame", spec := "fnExactFirstSame", unfollowed := true, recurses := true, apart := false }
def FnExactFirstSameSaid : Prop := fnExactFirstSameRow.holds Try.pinned (OpenSpec.ofChange fnExactFirstSameSpec)

/-- ITS FALSE NEIGHBOUR: 'it returns false'. Refute it at one input. -/
def fnExactFirstSameWrong : ChangeSpec := { name := "fnExactFirstSame", fn := fun _ => fun
  | [d] => { results := [.lit (.bool false)], args := [d] }
  | _ => none }
def FnExactFirstSameWrongFalsely : Prop := fnExactFirstSameRow.holds Try.pinned (OpenSpec.ofChange fnExactFirstSameWrong)

/-- 'laws.FnExactSlideClass': WHATEVER THE INPUT: true; the input reads as it did. -/
def fnExactSlideClassSpec : ChangeSpec := { name := "fnExactSlideClass", fn := fun _ => fun
  | [d] => { results := [.lit (.bool true)], args := [d] }
  | _ => none }
def fnExactSlideClassRow : OpenClaim := { program := "ytmoobmeihckaiaa", sum := "71525f2120b18ca38140f7984b1ef1896646865f83e225ea1feaba351c5d8b1f", func := "loop.example/g01209/laws.FnExactSlideClass", spec := "fnExactSlideClass", unfollowed := true, recurses := true, apart := false }
def FnExactSlideClassSaid : Prop := fnExactSlideClassRow.holds Try.pinned (OpenSpec.ofChange fnExactSlideClassSpec)

/-- ITS FALSE NEIGHBOUR: 'it returns false'. Refute it at one input. -/
def fnExactSlideClassWrong : ChangeSpec := { name := "fnExactSlideClass", fn := fun _ => fun
  | [d] => { results := [.lit (.bool false)], args := [d] }
  | _ => none }
def FnExactSlideClassWrongFalsely : Prop := fnExactSlideClassRow.holds Try.pinned (OpenSpec.ofChange fnExactSlideClassWrong)

/- THE SECOND FORM. 'bulk': how many values and letters a reading holds, each counted each time it is reached (what is shared counts as often as it is met; a slice's spare places count too). A statement '..UptoSaid' is the law's where the arguments, and the package variables that the reading takes, are together of bulk at most 1048576: NARROWER than '..Said'. Prove '..Said' where nothing that the law and all that it calls make is longer than what came in: it says more and counts as full. Else prove '..UptoSaid'. A law counts once. -/
mutual
def uptoBulk {H : Type} : DataW H → Nat
  | .lit (.string bytes) => bytes.length + 1
  | .lit _ => 1
  | .nil => 1
  | .ptr d => uptoBulk d + 1
  | .slice elems spare => uptoBulkAll elems + uptoBulkAll spare + 1
  | .agg parts => uptoBulkAll parts + 1
  | .iface _ d => uptoBulk d + 1
  | .map entries => uptoBulkEntries entries + 1
  | .held _ => 1
def uptoBulkAll {H : Type} : List (DataW H) → Nat
  | [] => 0
  | d :: r => uptoBulk d + uptoBulkAll r
def uptoBulkEntries {H : Type} : List (Lit × DataW H) → Nat
  | [] => 0
  | x :: r => uptoBulkEntry x + uptoBulkEntries r
def uptoBulkEntry {H : Type} : Lit × DataW H → Nat
  | (.string bytes, d) => bytes.length + uptoBulk d + 1
  | (_, d) => uptoBulk d + 1
 end
def uptoSmall : (H : Type) → List (DataW H) → Bool := fun _ ds => decide (uptoBulkAll ds ≤ 1048576)
def OpenSpec.upto (s : _root_.Go.ChangeSpec) : _root_.Go.OpenSpec := { _root_.Go.OpenSpec.ofChange s with cond := some uptoSmall }

/-- 'laws.FnExactTakeRung', WHERE WHAT IT READS IS OF BULK AT MOST 1048576: true; the input reads as it did. -/
def fnExactTakeRungUptoRow : OpenClaim := { program := "ytmoobmeihckaiaa", sum := "71525f2120b18ca38140f7984b1ef1896646865f83e225ea1feaba351c5d8b1f", func := "loop.example/g01209/laws.FnExactTakeRung", spec := "fnExactTakeRung", unfollowed := true, recurses := true, apart := false, narrowed := true }
def FnExactTakeRungUptoSaid : Prop := fnExactTakeRungUptoRow.holds Try.pinned (OpenSpec.upto fnExactTakeRungSpec)

/-- 'laws.FnExactLongestLadder', WHERE WHAT IT READS IS OF BULK AT MOST 1048576: true; the input reads as it did. -/
def fnExactLongestLadderUptoRow : OpenClaim := { program := "ytmoobmeihckaiaa", sum := "71525f2120b18ca38140f7984b1ef1896646865f83e225ea1feaba351c5d8b1f", func := "loop.example/g01209/laws.FnExactLongestLadder", spec := "fnExactLongestLadder", apart := false, narrowed := true }
def FnExactLongestLadderUptoSaid : Prop := fnExactLongestLadderUptoRow.holds Try.pinned (OpenSpec.upto fnExactLongestLadderSpec)

/-- 'laws.FnExactLeastLadder', WHERE WHAT IT READS IS OF BULK AT MOST 1048576: true; the input reads as it did. -/
def fnExactLeastLadderUptoRow : OpenClaim := { program := "ytmoobmeihckaiaa", sum := "71525f2120b18ca38140f7984b1ef1896646865f83e225ea1feaba351c5d8b1f", func := "loop.example/g01209/laws.FnExactLeastLadder", spec := "fnExactLeastLadder", apart := false, narrowed := true }
def FnExactLeastLadderUptoSaid : Prop := fnExactLeastLadderUptoRow.holds Try.pinned (OpenSpec.upto fnExactLeastLadderSpec)

/-- 'laws.FnExactReduceLadder', WHERE WHAT IT READS IS OF BULK AT MOST 1048576: true; the input reads as it did. -/
def fnExactReduceLadderUptoRow : OpenClaim := { program := "ytmoobmeihckaiaa", sum := "71525f2120b18ca38140f7984b1ef1896646865f83e225ea1feaba351c5d8b1f", func := "loop.example/g01209/laws.FnExactReduceLadder", spec := "fnExactReduceLadder", unfollowed := true, recurses := true, apart := false, narrowed := true }
def FnExactReduceLadderUptoSaid : Prop := fnExactReduceLadderUptoRow.holds Try.pinned (OpenSpec.upto fnExactReduceLadderSpec)

/-- 'laws.FnExactSlideRung', WHERE WHAT IT READS IS OF BULK AT MOST 1048576: true; the input reads as it did. -/
def fnExactSlideRungUptoRow : OpenClaim := { program := "ytmoobmeihckaiaa", sum := "71525f2120b18ca38140f7984b1ef1896646865f83e225ea1feaba351c5d8b1f", func := "loop.example/g01209/laws.FnExactSlideRung", spec := "fnExactSlideRung", unfollowed := true, recurses := true, apart := false, narrowed := true }
def FnExactSlideRungUptoSaid : Prop := fnExactSlideRungUptoRow.holds Try.pinned (OpenSpec.upto fnExactSlideRungSpec)

/-- 'laws.FnExactDropPair', WHERE WHAT IT READS IS OF BULK AT MOST 1048576: true; the input reads as it did. -/
def fnExactDropPairUptoRow : OpenClaim := { program := "ytmoobmeihckaiaa", sum := "71525f2120b18ca38140f7984b1ef1896646865f83e225ea1feaba351c5d8b1f", func := "loop.example/g01209/laws.FnExactDropPair", spec := "fnExactDropPair", unfollowed := true, recurses := true, apart := false, narrowed := true }
def FnExactDropPairUptoSaid : Prop := fnExactDropPairUptoRow.holds Try.pinned (OpenSpec.upto fnExactDropPairSpec)

/-- 'laws.FnExactFlipRungs', WHERE WHAT IT READS IS OF BULK AT MOST 1048576: true; the input reads as it did. -/
def fnExactFlipRungsUptoRow : OpenClaim := { program := "ytmoobmeihckaiaa", sum := "71525f2120b18ca38140f7984b1ef1896646865f83e225ea1feaba351c5d8b1f", func := "loop.example/g01209/laws.FnExactFlipRungs", spec := "fnExactFlipRungs", inPlace := ["slices.overlaps[int]"], unfollowed := true, recurses := true, apart := false, narrowed := true }
def FnExactFlipRungsUptoSaid : Prop := fnExactFlipRungsUptoRow.holds Try.pinned (OpenSpec.upto fnExactFlipRungsSpec)

/-- 'laws.FnExactAddRung', WHERE WHAT IT READS IS OF BULK AT MOST 1048576: true; the input reads as it did. -/
def fnExactAddRungUptoRow : OpenClaim := { program := "ytmoobmeihckaiaa", sum := "71525f2120b18ca38140f7984b1ef1896646865f83e225ea1feaba351c5d8b1f", func := "loop.example/g01209/laws.FnExactAddRung", spec := "fnExactAddRung", inPlace := ["slices.overlaps[int]"], unfollowed := true, recurses := true, apart := false, narrowed := true }
def FnExactAddRungUptoSaid : Prop := fnExactAddRungUptoRow.holds Try.pinned (OpenSpec.upto fnExactAddRungSpec)

/-- 'laws.FnExactAreSlides', WHERE WHAT IT READS IS OF BULK AT MOST 1048576: true; the input reads as it did. -/
def fnExactAreSlidesUptoRow : OpenClaim := { program := "ytmoobmeihckaiaa", sum := "71525f2120b18ca38140f7984b1ef1896646865f83e225ea1feaba351c5d8b1f", func := "loop.example/g01209/laws.FnExactAreSlides", spec := "fnExactAreSlides", unfollowed := true, recurses := true, apart := false, narrowed := true }
def FnExactAreSlidesUptoSaid : Prop := fnExactAreSlidesUptoRow.holds Try.pinned (OpenSpec.upto fnExactAreSlidesSpec)

/-- 'laws.FnExactFirstSame', WHERE WHAT IT READS IS OF BULK AT MOST 1048576: true; the input reads as it did. -/
def fnExactFirstSameUptoRow : OpenClaim := { program := "ytmoobmeihckaiaa", sum := "71525f2120b18ca38140f7984b1ef1896646865f83e225ea1feaba351c5d8b1f", func := "loop.example/g01209/laws.FnExactFirstSame", spec := "fnExactFirstSame", unfollowed := true, recurses := true, apart := false, narrowed := true }
def FnExactFirstSameUptoSaid : Prop := fnExactFirstSameUptoRow.holds Try.pinned (OpenSpec.upto fnExactFirstSameSpec)

/-- 'laws.FnExactSlideClass', WHERE WHAT IT READS IS OF BULK AT MOST 1048576: true; the input reads as it did. -/
def fnExactSlideClassUptoRow : OpenClaim := { program := "ytmoobmeihckaiaa", sum := "71525f2120b18ca38140f7984b1ef1896646865f83e225ea1feaba351c5d8b1f", func := "loop.example/g01209/laws.FnExactSlideClass", spec := "fnExactSlideClass", unfollowed := true, recurses := true, apart := false, narrowed := true }
def FnExactSlideClassUptoSaid : Prop := fnExactSlideClassUptoRow.holds Try.pinned (OpenSpec.upto fnExactSlideClassSpec)

end Rows
end Go.Proofs.Ytmoobmeihckaiaa
