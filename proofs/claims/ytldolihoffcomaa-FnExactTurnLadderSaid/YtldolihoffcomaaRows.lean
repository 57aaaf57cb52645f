/-
  No cell of these rows narrows 'for every input' (looked for: loops, veiled, ifaces, maps, wideKeys, modest, calm, conditions, laid).
  DERIVED. THE GIVEN ROWS OF THIS SEAT. 12 by the template 'for every input the law returns true; each argument reads behind the call as it read before'; 0 by the template 'total and deterministic' (their statements: YtldolihoffcomaaTotals.lean).
  GIVEN WITH THE SEED: the statements are not yours to turn. If you find one false, say at which input.
  Laid BY PROGRAM, IN A SANDBOX (cutbox-rows.mjs): the forced cells as the released guide's own fill.sh prints them over the translation 5abf3cb316cea3f6… (all of the seat's roots in one cut). By AI agents, Wed Nov 11 2026. No macro, syntax, notation, axiom, sorry.
-/
import Derived.Test.YtldolihoffcomaaChecked
import GoSem.Claim
import GoSem.ClaimJoined
import GoSem.ClaimMapViews
import Derived.JoinedTies
import Derived.KernelRfl
namespace Go.Proofs.Ytldolihoffcomaa
/- THE CELL 'sum', in the pinned program and in every row, IS THE sha256 OF THE DUMP (.gsa) THAT YtldolihoffcomaaProg.lean LOADS. Nothing in Lean hashes anything: it is a label: what it is worth is what the hold of that sum in a sandbox is worth. -/
noncomputable def Try.pinned : Pinned := { name := "ytldolihoffcomaa", sum := "5abf3cb316cea3f69f7574bcf38a156bb183ee48b614943c454855275d5e9acd", checked := Try.checked }
namespace Rows
def none {H : Type} : Left H := { results := [], args := [] }

/-- 'laws.FnExactMirrorLadder': WHATEVER THE INPUT: true; the input reads as it did. -/
def fnExactMirrorLadderSpec : ChangeSpec := { name := "fnExactMirrorLadder", fn := fun _ => fun
  | [d] => { results := [.lit (.bool true)], args := [d] }
  | _ => none }
def fnExactMirrorLadderRow : OpenClaim := { program := "ytldolihoffcomaa", sum := "5abf3cb316cea3f69f7574bcf38a156bb183ee48b614943c454855275d5e9acd", func := "loop.example/g01209/laws.FnExactMirrorLadder", spec := "fnExactMirrorLadder", unfollowed := true, recurses := true, apart := false }
def FnExactMirrorLadderSaid : Prop := fnExactMirrorLadderRow.holds Try.pinned (OpenSpec.ofChange fnExactMirrorLadderSpec)

/-- ITS FALSE NEIGHBOUR: 'it returns false'. Refute it at one input. -/
def fnExactMirrorLadderWrong : ChangeSpec := { name := "fnExactMirrorLadder", fn := fun _ => fun
  | [d] => { results := [.lit (.bool false)], args := [d] }
  | _ => none }
def FnExactMirrorLadderWrongFalsely : Prop := fnExactMirrorLadderRow.holds Try.pinned (OpenSpec.ofChange fnExactMirrorLadderWrong)

/-- 'laws.FnExactEndOf': WHATEVER THE INPUT: true; the input reads as it did. -/
def fnExactEndOfSpec : ChangeSpec := { name := "fnExactEndOf", fn := fun _ => fun
  | [d1, d2] => { results := [.lit (.bool true)], args := [d1, d2] }
  | _ => none }
def fnExactEndOfRow : OpenClaim := { program := "ytldolihoffcomaa", sum := "5abf3cb316cea3f69f7574bcf38a156bb183ee48b614943c454855275d5e9acd", func := "loop.example/g01209/laws.FnExactEndOf", spec := "fnExactEndOf", unfollowed := true, recurses := true, apart := false }
def FnExactEndOfSaid : Prop := fnExactEndOfRow.holds Try.pinned (OpenSpec.ofChange fnExactEndOfSpec)

/-- ITS FALSE NEIGHBOUR: 'it returns false'. Refute it at one input. -/
def fnExactEndOfWrong : ChangeSpec := { name := "fnExactEndOf", fn := fun _ => fun
  | [d1, d2] => { results := [.lit (.bool false)], args := [d1, d2] }
  | _ => none }
def FnExactEndOfWrongFalsely : Prop := fnExactEndOfRow.holds Try.pinned (OpenSpec.ofChange fnExactEndOfWrong)

/-- 'laws.FnExactMeetingsOf': WHATEVER THE INPUT: true; the input reads as it did. -/
def fnExactMeetingsOfSpec : ChangeSpec := { name := "fnExactMeetingsOf", fn := fun _ => fun
  | [d1, d2, d3] => { results := [.lit (.bool true)], args := [d1, d2, d3] }
  | _ => none }
def fnExactMeetingsOfRow : OpenClaim := { program := "ytldolihoffcomaa", sum := "5abf3cb316cea3f69f7574bcf38a156bb183ee48b614943c454855275d5e9acd", func := "loop.example/g01209/laws.FnExactMeetingsOf", spec := "fnExactMeetingsOf", unfollowed := true, recurses := true, apart := false }
def FnExactMeetingsOfSaid : Prop := fnExactMeetingsOfRow.holds Try.pinned (OpenSpec.ofChange fnExactMeetingsOfSpec)

/-- ITS FALSE NEIGHBOUR: 'it returns false'. Refute it at one input. -/
def fnExactMeetingsOfWrong : ChangeSpec := { name := "fnExactMeetingsOf", fn := fun _ => fun
  | [d1, d2, d3] => { results := [.lit (.bool false)], args := [d1, d2, d3] }
  | _ => none }
def FnExactMeetingsOfWrongFalsely : Prop := fnExactMeetingsOfRow.holds Try.pinned (OpenSpec.ofChange fnExactMeetingsOfWrong)

/-- 'laws.FnExactWayDown': WHATEVER THE INPUT: true; the input reads as it did. -/
def fnExactWayDownSpec : ChangeSpec := { name := "fnExactWayDown", fn := fun _ => fun
  | [d1, d2] => { results := [.lit (.bool true)], args := [d1, d2] }
  | _ => none }
def fnExactWayDownRow : OpenClaim := { program := "ytldolihoffcomaa", sum := "5abf3cb316cea3f69f7574bcf38a156bb183ee48b614943c454855275d5e9acd", func := "loop.example/g01209/laws.FnExactWayDown", spec := "fnExactWayDown", unfollowed := true, recurses := true, apart := false }
def FnExactWayDownSaid : Prop := fnExactWayDownRow.holds Try.pinned (OpenSpec.ofChange fnExactWayDownSpec)

/-- ITS FALSE NEIGHBOUR: 'it returns false'. Refute it at one input. -/
def fnExactWayDownWrong : ChangeSpec := { name := "fnExactWayDown", fn := fun _ => fun
  | [d1, d2] => { results := [.lit (.bool false)], args := [d1, d2] }
  | _ => none }
def FnExactWayDownWrongFalsely : Prop := fnExactWayDownRow.holds Try.pinned (OpenSpec.ofChange fnExactWayDownWrong)

/-- 'laws.FnExactResultOf': WHATEVER THE INPUT: true; the input reads as it did. -/
def fnExactResultOfSpec : ChangeSpec := { name := "fnExactResultOf", fn := fun _ => fun
  | [d] => { results := [.lit (.bool true)], args := [d] }
  | _ => none }
def fnExactResultOfRow : OpenClaim := { program := "ytldolihoffcomaa", sum := "5abf3cb316cea3f69f7574bcf38a156bb183ee48b614943c454855275d5e9acd", func := "loop.example/g01209/laws.FnExactResultOf", spec := "fnExactResultOf", unfollowed := true, recurses := true, apart := false }
def FnExactResultOfSaid : Prop := fnExactResultOfRow.holds Try.pinned (OpenSpec.ofChange fnExactResultOfSpec)

/-- ITS FALSE NEIGHBOUR: 'it returns false'. Refute it at one input. -/
def fnExactResultOfWrong : ChangeSpec := { name := "fnExactResultOf", fn := fun _ => fun
  | [d] => { results := [.lit (.bool false)], args := [d] }
  | _ => none }
def FnExactResultOfWrongFalsely : Prop := fnExactResultOfRow.holds Try.pinned (OpenSpec.ofChange fnExactResultOfWrong)

/-- 'laws.FnExactRungsUsed': WHATEVER THE INPUT: true; the input reads as it did. -/
def fnExactRungsUsedSpec : ChangeSpec := { name := "fnExactRungsUsed", fn := fun _ => fun
  | [d1, d2] => { results := [.lit (.bool true)], args := [d1, d2] }
  | _ => none }
def fnExactRungsUsedRow : OpenClaim := { program := "ytldolihoffcomaa", sum := "5abf3cb316cea3f69f7574bcf38a156bb183ee48b614943c454855275d5e9acd", func := "loop.example/g01209/laws.FnExactRungsUsed", spec := "fnExactRungsUsed", unfollowed := true, recurses := true, apart := false }
def FnExactRungsUsedSaid : Prop := fnExactRungsUsedRow.holds Try.pinned (OpenSpec.ofChange fnExactRungsUsedSpec)

/-- ITS FALSE NEIGHBOUR: 'it returns false'. Refute it at one input. -/
def fnExactRungsUsedWrong : ChangeSpec := { name := "fnExactRungsUsed", fn := fun _ => fun
  | [d1, d2] => { results := [.lit (.bool false)], args := [d1, d2] }
  | _ => none }
def FnExactRungsUsedWrongFalsely : Prop := fnExactRungsUsedRow.holds Try.pinned (OpenSpec.ofChange fnExactRungsUsedWrong)

/-- 'laws.FnExactNeedlessRungs': WHATEVER THE INPUT: true; the input reads as it did. -/
def fnExactNeedlessRungsSpec : ChangeSpec := { name := "fnExactNeedlessRungs", fn := fun _ => fun
  | [d] => { results := [.lit (.bool true)], args := [d] }
  | _ => none }
def fnExactNeedlessRungsRow : OpenClaim := { program := "ytldolihoffcomaa", sum := "5abf3cb316cea3f69f7574bcf38a156bb183ee48b614943c454855275d5e9acd", func := "loop.example/g01209/laws.FnExactNeedlessRungs", spec := "fnExactNeedlessRungs", unfollowed := true, recurses := true, apart := false }
def FnExactNeedlessRungsSaid : Prop := fnExactNeedlessRungsRow.holds Try.pinned (OpenSpec.ofChange fnExactNeedlessRungsSpec)

/-- ITS FALSE NEIGHBOUR: 'it returns false'. Refute it at one input. -/
def fnExactNeedlessRungsWrong : ChangeSpec := { name := "fnExactNeedlessRungs", fn := fun _ => fun
  | [d] => { results := [.lit (.bool false)], args := [d] }
  | _ => none }
def FnExactNeedlessRungsWrongFalsely : Prop := fnExactNeedlessRungsRow.holds Try.pinned (OpenSpec.ofChange fnExactNeedlessRungsWrong)

/-- 'laws.FnExactIsLeast': WHATEVER THE INPUT: true; the input reads as it did. -/
def fnExactIsLeastSpec : ChangeSpec := { name := "fnExactIsLeast", fn := fun _ => fun
  | [d] => { results := [.lit (.bool true)], args := [d] }
  | _ => none }
def fnExactIsLeastRow : OpenClaim := { program := "ytldolihoffcomaa", sum := "5abf3cb316cea3f69f7574bcf38a156bb183ee48b614943c454855275d5e9acd", func := "loop.example/g01209/laws.FnExactIsLeast", spec := "fnExactIsLeast", unfollowed := true, recurses := true, apart := false }
def FnExactIsLeastSaid : Prop := fnExactIsLeastRow.holds Try.pinned (OpenSpec.ofChange fnExactIsLeastSpec)

/-- ITS FALSE NEIGHBOUR: 'it returns false'. Refute it at one input. -/
def fnExactIsLeastWrong : ChangeSpec := { name := "fnExactIsLeast", fn := fun _ => fun
  | [d] => { results := [.lit (.bool false)], args := [d] }
  | _ => none }
def FnExactIsLeastWrongFalsely : Prop := fnExactIsLeastRow.holds Try.pinned (OpenSpec.ofChange fnExactIsLeastWrong)

/-- 'laws.FnExactMeetTwice': WHATEVER THE INPUT: true; the input reads as it did. -/
def fnExactMeetTwiceSpec : ChangeSpec := { name := "fnExactMeetTwice", fn := fun _ => fun
  | [d] => { results := [.lit (.bool true)], args := [d] }
  | _ => none }
def fnExactMeetTwiceRow : OpenClaim := { program := "ytldolihoffcomaa", sum := "5abf3cb316cea3f69f7574bcf38a156bb183ee48b614943c454855275d5e9acd", func := "loop.example/g01209/laws.FnExactMeetTwice", spec := "fnExactMeetTwice", unfollowed := true, recurses := true, apart := false }
def FnExactMeetTwiceSaid : Prop := fnExactMeetTwiceRow.holds Try.pinned (OpenSpec.ofChange fnExactMeetTwiceSpec)

/-- ITS FALSE NEIGHBOUR: 'it returns false'. Refute it at one input. -/
def fnExactMeetTwiceWrong : ChangeSpec := { name := "fnExactMeetTwice", fn := fun _ => fun
  | [d] => { results := [.lit (.bool false)], args := [d] }
  | _ => none }
def FnExactMeetTwiceWrongFalsely : Prop := fnExactMeetTwiceRow.holds Try.pinned (OpenSpec.ofChange fnExactMeetTwiceWrong)

/-- 'laws.FnExactBelowLadder': WHATEVER THE INPUT: true; the input reads as it did. -/
def fnExactBelowLadderSpec : ChangeSpec := { name := "fnExactBelowLadder", fn := fun _ => fun
  | [d1, d2] => { results := [.lit (.bool true)], args := [d1, d2] }
  | _ => none }
def fnExactBelowLadderRow : OpenClaim := { program := "ytldolihoffcomaa", sum := "5abf3cb316cea3f69f7574bcf38a156bb183ee48b614943c454855275d5e9acd", func := "loop.example/g01209/laws.FnExactBelowLadder", spec := "fnExactBelowLadder", unfollowed := true, recurses := true, apart := false }
def FnExactBelowLadderSaid : Prop := fnExactBelowLadderRow.holds Try.pinned (OpenSpec.ofChange fnExactBelowLadderSpec)

/-- ITS FALSE NEIGHBOUR: 'it returns false'. Refute it at one input. -/
def fnExactBelowLadderWrong : ChangeSpec := { name := "fnExactBelowLadder", fn := fun _ => fun
  | [d1, d2] => { results := [.lit (.bool false)], args := [d1, d2] }
  | _ => none }
def FnExactBelowLadderWrongFalsely : Prop := fnExactBelowLadderRow.holds Try.pinned (OpenSpec.ofChange fnExactBelowLadderWrong)

/-- 'laws.FnExactRepeatLadder': WHATEVER THE INPUT: true; the input reads as it did. -/
def fnExactRepeatLadderSpec : ChangeSpec := { name := "fnExactRepeatLadder", fn := fun _ => fun
  | [d1, d2] => { results := [.lit (.bool true)], args := [d1, d2] }
  | _ => none }
def fnExactRepeatLadderRow : OpenClaim := { program := "ytldolihoffcomaa", sum := "5abf3cb316cea3f69f7574bcf38a156bb183ee48b614943c454855275d5e9acd", func := "loop.example/g01209/laws.FnExactRepeatLadder", spec := "fnExactRepeatLadder", unfollowed := true, recurses := true, apart := false }
def FnExactRepeatLadderSaid : Prop := fnExactRepeatLadderRow.holds Try.pinned (OpenSpec.ofChange fnExactRepeatLadderSpec)

/-- ITS FALSE NEIGHBOUR: 'it returns false'. Refute it at one input. -/
def fnExactRepeatLadderWrong : ChangeSpec := { name := "fnExactRepeatLadder", fn := fun _ => fun
  | [d1, d2] => { results := [.lit (.bool false)], args := [d1, d2] }
  | _ => none }
def FnExactRepeatLadderWrongFalsely : Prop := fnExactRepeatLadderRow.holds Try.pinned (OpenSpec.ofChange fnExactRepeatLadderWrong)

/-- 'laws.FnExactTurnLadder': WHATEVER THE INPUT: true; the input reads as it did. -/
def fnExactTurnLadderSpec : ChangeSpec := { name := "fnExactTurnLadder", fn := fun _ => fun
  | [d] => { results := [.lit (.bool true)], args := [d] }
  | _ => none }
def fnExactTurnLadderRow : OpenClaim := { program := "ytldolihoffcomaa", sum := "5abf3cb316cea3f69f7574bcf38a156bb183ee48b614943c454855275d5e9acd", func := "loop.example/g01209/laws.FnExactTurnLadder", spec := "fnExactTurnLadder", unfollowed := true, recurses := true, apart := false }
def FnExactTurnLadderSaid : Prop := fnExactTurnLadderRow.holds Try.pinned (OpenSpec.ofChange fnExactTurnLadderSpec)

/-- ITS FALSE NEIGHBOUR: 'it returns false'. Refute it at one input. -/
def fnExactTurnLadderWrong : ChangeSpec := { name := "fnExactTurnLadder", fn := fun _ => fun
  | [d] => { results := [.lit (.bool false)], args := [d] }
  | _ => none }
def FnExactTurnLadderWrongFalsely : Prop := fnExactTurnLadderRow.holds Try.pinned (OpenSpec.ofChange fnExactTurnLadderWrong)

/- THE SECOND FORM. 'bulk': how many values and letters a reading holds, each counted each time it is reached (what is shared counts as often as it is met; a slice's spare places count too). A statement '..UptoSaid' is the law's where the arguments, and the package variables that the reading takes, are together of bulk at most 1048576: NARROWER than '..Said'. Prove '..Said' where nothing that the law and all that it calls make is longer than what came in: it says more and counts as full. Else prove '..UptoSaid'. A law counts once. -/
mutual
def uptoBulk {H : Type} : DataW H → Nat
  | .lit (.string bytes) => bytes.length + 1
  | .lit _ => 1
  | .nil => 1
  | .ptr d => uptoBulk d + 1
  | .slice elems spare => uptoBulkAll elems + uptoBulkAll spare + 1
  | .agg parts => uptoBulkAll parts + 1
  | .iface _ d => uptoBulk d + 1
  | .map entries => uptoBulkEntries entries + 1
  | .held _ => 1
def uptoBulkAll {H : Type} : List (DataW H) → Nat
  | [] => 0
  | d :: r => uptoBulk d + uptoBulkAll r
def uptoBulkEntries {H : Type} : List (Lit × DataW H) → Nat
  | [] => 0
  | x :: r => uptoBulkEntry x + uptoBulkEntries r
def uptoBulkEntry {H : Type} : Lit × DataW H → Nat
  | (.string bytes, d) => bytes.length + uptoBulk d + 1
  | (_, d) => uptoBulk d + 1
 end
def uptoSmall : (H : Type) → List (DataW H) → Bool := fun _ ds => decide (uptoBulkAll ds ≤ 1048576)
def OpenSpec.upto (s : _root_.Go.ChangeSpec) : _root_.Go.OpenSpec := { _root_.Go.OpenSpec.ofChange s with cond := some uptoSmall }

/-- 'laws.FnExactMirrorLadder', WHERE WHAT IT READS IS OF BULK AT MOST 1048576: true; the input reads as it did. -/
def fnExactMirrorLadderUptoRow : OpenClaim := { program := "ytldolihoffcomaa", sum := "5abf3cb316cea3f69f7574bcf38a156bb183ee48b614943c454855275d5e9acd", func := "loop.example/g01209/laws.FnExactMirrorLadder", spec := "fnExactMirrorLadder", unfollowed := true, recurses := true, apart := false, narrowed := true }
def FnExactMirrorLadderUptoSaid : Prop := fnExactMirrorLadderUptoRow.holds Try.pinned (OpenSpec.upto fnExactMirrorLadderSpec)

/-- 'laws.FnExactEndOf', WHERE WHAT IT READS IS OF BULK AT MOST 1048576: true; the input reads as it did. -/
def fnExactEndOfUptoRow : OpenClaim := { program := "ytldolihoffcomaa", sum := "5abf3cb316cea3f69f7574bcf38a156bb183ee48b614943c454855275d5e9acd", func := "loop.example/g01209/laws.FnExactEndOf", spec := "fnExactEndOf", unfollowed := true, recurses := true, apart := false, narrowed := true }
def FnExactEndOfUptoSaid : Prop := fnExactEndOfUptoRow.holds Try.pinned (OpenSpec.upto fnExactEndOfSpec)

/-- 'laws.FnExactMeetingsOf', WHERE WHAT IT READS IS OF BULK AT MOST 1048576: true; the input reads as it did. -/
def fnExactMeetingsOfUptoRow : OpenClaim := { program := "ytldolihoffcomaa", sum := "5abf3cb316cea3f69f7574bcf38a156bb183ee48b614943c454855275d5e9acd", func := "loop.example/g01209/laws.FnExactMeetingsOf", spec := "fnExactMeetingsOf", unfollowed := true, recurses := true, apart := false, narrowed := true }
def FnExactMeetingsOfUptoSaid : Prop := fnExactMeetingsOfUptoRow.holds Try.pinned (OpenSpec.upto fnExactMeetingsOfSpec)

/-- 'laws.FnExactWayDown', WHERE WHAT IT READS IS OF BULK AT MOST 1048576: true; the input reads as it did. -/
def fnExactWayDownUptoRow : OpenClaim := { program := "ytldolihoffcomaa", sum := "5abf3cb316cea3f69f7574bcf38a156bb183ee48b614943c454855275d5e9acd", func := "loop.example/g01209/laws.FnExactWayDown", spec := "fnExactWayDown", unfollowed := true, recurses := true, apart := false, narrowed := true }
def FnExactWayDownUptoSaid : Prop := fnExactWayDownUptoRow.holds Try.pinned (OpenSpec.upto fnExactWayDownSpec)

/-- 'laws.FnExactResultOf', WHERE WHAT IT READS IS OF BULK AT MOST 1048576: true; the input reads as it did. -/
def fnExactResultOfUptoRow : OpenClaim := { program := "ytldolihoffcomaa", sum := "5abf3cb316cea3f69f7574bcf38a156bb183ee48b614943c454855275d5e9acd", func := "loop.example/g01209/laws.FnExactResultOf", spec := "fnExactResultOf", unfollowed := true, recurses := true, apart := false, narrowed := true }
def FnExactResultOfUptoSaid : Prop := fnExactResultOfUptoRow.holds Try.pinned (OpenSpec.upto fnExactResultOfSpec)

/-- 'laws.FnExactRungsUsed', WHERE WHAT IT READS IS OF BULK AT MOST 1048576: true; the input reads as it did. -/
def fnExactRungsUsedUptoRow : OpenClaim := { program := "ytldolihoffcomaa", sum := "5abf3cb316cea3f69f7574bcf38a156bb183ee48b614943c454855275d5e9acd", func := "loop.example/g01209/laws.FnExactRungsUsed", spec := "fnExactRungsUsed", unfollowed := true, recurses := true, apart := false, narrowed := true }
def FnExactRungsUsedUptoSaid : Prop := fnExactRungsUsedUptoRow.holds Try.pinned (OpenSpec.upto fnExactRungsUsedSpec)

/-- 'laws.FnExactNeedlessRungs', WHERE WHAT IT READS IS OF BULK AT MOST 1048576: true; the input reads as it did. -/
def fnExactNeedlessRungsUptoRow : OpenClaim := { program := "ytldolihoffcomaa", sum := "5abf3cb316cea3f69f7574bcf38a156bb183ee48b614943c454855275d5e9acd", func := "loop.example/g01209/laws.FnExactNeedlessRungs", spec := "fnExactNeedlessRungs", unfollowed := true, recurses := true, apart := false, narrowed := true }
def FnExactNeedlessRungsUptoSaid : Prop := fnExactNeedlessRungsUptoRow.holds Try.pinned (OpenSpec.upto fnExactNeedlessRungsSpec)

/-- 'laws.FnExactIsLeast', WHERE WHAT IT READS IS OF BULK AT MOST 1048576: true; the input reads as it did. -/
def fnExactIsLeastUptoRow : OpenClaim := { program := "ytldolihoffcomaa", sum := "5abf3cb316cea3f69f7574bcf38a156bb183ee48b614943c454855275d5e9acd", func := "loop.example/g01209/laws.FnExactIsLeast", spec := "fnExactIsLeast", unfollowed := true, recurses := true, apart := false, narrowed := true }
def FnExactIsLeastUptoSaid : Prop := fnExactIsLeastUptoRow.holds Try.pinned (OpenSpec.upto fnExactIsLeastSpec)

/-- 'laws.FnExactMeetTwice', WHERE WHAT IT READS IS OF BULK AT MOST 1048576: true; the input reads as it did. -/
def fnExactMeetTwiceUptoRow : OpenClaim := { program := "ytldolihoffcomaa", sum := "5abf3cb316cea3f69f7574bcf38a156bb183ee48b614943c454855275d5e9acd", func := "loop.example/g01209/laws.FnExactMeetTwice", spec := "fnExactMeetTwice", unfollowed := true, recurses := true, apart := false, narrowed := true }
def FnExactMeetTwiceUptoSaid : Prop := fnExactMeetTwiceUptoRow.holds Try.pinned (OpenSpec.upto fnExactMeetTwiceSpec)

/-- 'laws.FnExactBelowLadder', WHERE WHAT IT READS IS OF BULK AT MOST 1048576: true; the input reads as it did. -/
def fnExactBelowLadderUptoRow : OpenClaim := { program := "ytldolihoffcomaa", sum := "5abf3cb316cea3f69f7574bcf38a156bb183ee48b614943c454855275d5e9acd", func := "loop.example/g01209/laws.FnExactBelowLadder", spec := "fnExactBelowLadder", unfollowed := true, recurses := true, apart := false, narrowed := true }
def FnExactBelowLadderUptoSaid : Prop := fnExactBelowLadderUptoRow.holds Try.pinned (OpenSpec.upto fnExactBelowLadderSpec)

/-- 'laws.FnExactRepeatLadder', WHERE WHAT IT READS IS OF BULK AT MOST 1048576: true; the input reads as it did. -/
def fnExactRepeatLadderUptoRow : OpenClaim := { program := "ytldolihoffcomaa", sum := "5abf3cb316cea3f69f7574bcf38a156bb183ee48b614943c454855275d5e9acd", func := "loop.example/g01209/laws.FnExactRepeatLadder", spec := "fnExactRepeatLadder", unfollowed := true, recurses := true, apart := false, narrowed := true }
def FnExactRepeatLadderUptoSaid : Prop := fnExactRepeatLadderUptoRow.holds Try.pinned (OpenSpec.upto fnExactRepeatLadderSpec)

/-- 'laws.FnExactTurnLadder', WHERE WHAT IT READS IS OF BULK AT MOST 1048576: true; the input reads as it did. -/
def fnExactTurnLadderUptoRow : OpenClaim := { program := "ytldolihoffcomaa", sum := "5abf3cb316cea3f69f7574bcf38a156bb183ee48b614943c454855275d5e9acd", func := "loop.example/g01209/laws.FnExactTurnLadder", spec := "fnExactTurnLadder", unfollowed := true, recurses := true, apart := false, narrowed := true }
def FnExactTurnLadderUptoSaid : Prop := fnExactTurnLadderUptoRow.holds Try.pinned (OpenSpec.upto fnExactTurnLadderSpec)

end Rows
end Go.Proofs.Ytldolihoffcomaa
