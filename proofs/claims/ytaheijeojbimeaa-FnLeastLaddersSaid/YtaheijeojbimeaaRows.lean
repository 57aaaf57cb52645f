/-
  No cell of these rows narrows 'for every input' (looked for: loops, veiled, ifaces, maps, wideKeys, modest, calm, conditions, laid).
  DERIVED. THE GIVEN ROWS OF THIS SEAT. 3 by the template 'for every input the law returns true; each argument reads behind the call as it read before'; 0 by the template 'total and deterministic' (their statements: YtaheijeojbimeaaTotals.lean).
  GIVEN WITH THE SEED: the statements are not yours to turn. If you find one false, say at which input.
  Laid BY PROGRAM, IN A SANDBOX (cutbox-rows.mjs): the forced cells as the released guide's own fill.sh prints them over the translation 02d346c61d386cc2… (all of the seat's roots in one cut). By AI agents, Wed Nov 11 2026. No macro, syntax, notation, axiom, sorry.
-/
import Derived.Test.YtaheijeojbimeaaChecked
import GoSem.Claim
import GoSem.ClaimJoined
import GoSem.ClaimMapViews
import Derived.JoinedTies
import Derived.KernelRfl
namespace Go.Proofs.Ytaheijeojbimeaa
/- THE CELL 'sum', in the pinned program and in every row, IS THE sha256 OF THE DUMP (.gsa) THAT YtaheijeojbimeaaProg.lean LOADS. Nothing in Lean hashes anything: it is a label: what it is worth is what the hold of that sum in a sandbox is worth. -/
noncomputable def Try.pinned : Pinned := { name := "ytaheijeojbimeaa", sum := "02d346c61d386cc2c8e28c851c2f516dd7dc24e9796ce31dec5435b11767df1a", checked := Try.checked }
namespace Rows
def none {H : Type} : Left H := { results := [], args := [] }

/-- 'laws.FnOrdersGroup': WHATEVER THE INPUT: true; the input reads as it did. -/
def fnOrdersGroupSpec : ChangeSpec := { name := "fnOrdersGroup", fn := fun _ => fun
  | [d1, d2] => { results := [.lit (.bool true)], args := [d1, d2] }
  | _ => none }
def fnOrdersGroupRow : OpenClaim := { program := "ytaheijeojbimeaa", sum := "02d346c61d386cc2c8e28c851c2f516dd7dc24e9796ce31dec5435b11767df1a", func := "loop.example/g01209/laws.FnOrdersGroup", spec := "fnOrdersGroup", apart := false }
def FnOrdersGroupSaid : Prop := fnOrdersGroupRow.holds Try.pinned (OpenSpec.ofChange fnOrdersGroupSpec)

/-- ITS FALSE NEIGHBOUR: 'it returns false'. Refute it at one input. -/
def fnOrdersGroupWrong : ChangeSpec := { name := "fnOrdersGroup", fn := fun _ => fun
  | [d1, d2] => { results := [.lit (.bool false)], args := [d1, d2] }
  | _ => none }
def FnOrdersGroupWrongFalsely : Prop := fnOrdersGroupRow.holds Try.pinned (OpenSpec.ofChange fnOrdersGroupWrong)

/-- 'laws.FnLeastLadders': WHATEVER THE INPUT: true; the input reads as it did. -/
def fnLeastLaddersSpec : ChangeSpec := { name := "fnLeastLadders", fn := fun _ => fun
  | [d1, d2] => { results := [.lit (.bool true)], args := [d1, d2] }
  | _ => none }
def fnLeastLaddersRow : OpenClaim := { program := "ytaheijeojbimeaa", sum := "02d346c61d386cc2c8e28c851c2f516dd7dc24e9796ce31dec5435b11767df1a", func := "loop.example/g01209/laws.FnLeastLadders", spec := "fnLeastLadders", unfollowed := true, recurses := true, apart := false }
def FnLeastLaddersSaid : Prop := fnLeastLaddersRow.holds Try.pinned (OpenSpec.ofChange fnLeastLaddersSpec)

/-- ITS FALSE NEIGHBOUR: 'it returns false'. Refute it at one input. -/
def fnLeastLaddersWrong : ChangeSpec := { name := "fnLeastLadders", fn := fun _ => fun
  | [d1, d2] => { results := [.lit (.bool false)], args := [d1, d2] }
  | _ => none }
def FnLeastLaddersWrongFalsely : Prop := fnLeastLaddersRow.holds Try.pinned (OpenSpec.ofChange fnLeastLaddersWrong)

/-- 'laws.FnLaddersGoneDown': WHATEVER THE INPUT: true; the input reads as it did. -/
def fnLaddersGoneDownSpec : ChangeSpec := { name := "fnLaddersGoneDown", fn := fun _ => fun
  | [d1, d2] => { results := [.lit (.bool true)], args := [d1, d2] }
  | _ => none }
def fnLaddersGoneDownRow : OpenClaim := { program := "ytaheijeojbimeaa", sum := "02d346c61d386cc2c8e28c851c2f516dd7dc24e9796ce31dec5435b11767df1a", func := "loop.example/g01209/laws.FnLaddersGoneDown", spec := "fnLaddersGoneDown", unfollowed := true, recurses := true, apart := false }
def FnLaddersGoneDownSaid : Prop := fnLaddersGoneDownRow.holds Try.pinned (OpenSpec.ofChange fnLaddersGoneDownSpec)

/-- ITS FALSE NEIGHBOUR: 'it returns false'. Refute it at one input. -/
def fnLaddersGoneDownWrong : ChangeSpec := { name := "fnLaddersGoneDown", fn := fun _ => fun
  | [d1, d2] => { results := [.lit (.bool false)], args := [d1, d2] }
  | _ => none }
def FnLaddersGoneDownWrongFalsely : Prop := fnLaddersGoneDownRow.holds Try.pinned (OpenSpec.ofChange fnLaddersGoneDownWrong)

/- THE SECOND FORM. 'bulk': how many values and letters a reading holds, each counted each time it is reached (what is shared counts as often as it is met; a slice's spare places count too). A statement '..UptoSaid' is the law's where the arguments, and the package variables that the reading takes, are together of bulk at most 1048576: NARROWER than '..Said'. Prove '..Said' where nothing that the law and all that it calls make is longer than what came in: it says more and counts as full. Else prove '..UptoSaid'. A law counts once. -/
mutual
def uptoBulk {H : Type} : DataW H → Nat
  | .lit (.string bytes) => bytes.length + 1
  | .lit _ => 1
  | .nil => 1
  | .ptr d => uptoBulk d + 1
  | .slice elems spare => uptoBulkAll elems + uptoBulkAll spare + 1
  | .agg parts => uptoBulkAll parts + 1
  | .iface _ d => uptoBulk d + 1
  | .map entries => uptoBulkEntries entries + 1
  | .held _ => 1
def uptoBulkAll {H : Type} : List (DataW H) → Nat
  | [] => 0
  | d :: r => uptoBulk d + uptoBulkAll r
def uptoBulkEntries {H : Type} : List (Lit × DataW H) → Nat
  | [] => 0
  | x :: r => uptoBulkEntry x + uptoBulkEntries r
def uptoBulkEntry {H : Type} : Lit × DataW H → Nat
  | (.string bytes, d) => bytes.length + uptoBulk d + 1
  | (_, d) => uptoBulk d + 1
 end
def uptoSmall : (H : Type) → List (DataW H) → Bool := fun _ ds => decide (uptoBulkAll ds ≤ 1048576)
def OpenSpec.upto (s : _root_.Go.ChangeSpec) : _root_.Go.OpenSpec := { _root_.Go.OpenSpec.ofChange s with cond := some uptoSmall }

/-- 'laws.FnOrdersGroup', WHERE WHAT IT READS IS OF BULK AT MOST 1048576: true; the input reads as it did. -/
def fnOrdersGroupUptoRow : OpenClaim := { program := "ytaheijeojbimeaa", sum := "02d346c61d386cc2c8e28c851c2f516dd7dc24e9796ce31dec5435b11767df1a", func := "loop.example/g01209/laws.FnOrdersGroup", spec := "fnOrdersGroup", apart := false, narrowed := true }
def FnOrdersGroupUptoSaid : Prop := fnOrdersGroupUptoRow.holds Try.pinned (OpenSpec.upto fnOrdersGroupSpec)

/-- 'laws.FnLeastLadders', WHERE WHAT IT READS IS OF BULK AT MOST 1048576: true; the input reads as it did. -/
def fnLeastLaddersUptoRow : OpenClaim := { program := "ytaheijeojbimeaa", sum := "02d346c61d386cc2c8e28c851c2f516dd7dc24e9796ce31dec5435b11767df1a", func := "loop.example/g01209/laws.FnLeastLadders", spec := "fnLeastLadders", unfollowed := true, recurses := true, apart := false, narrowed := true }
def FnLeastLaddersUptoSaid : Prop := fnLeastLaddersUptoRow.holds Try.pinned (OpenSpec.upto fnLeastLaddersSpec)

/-- 'laws.FnLaddersGoneDown', WHERE WHAT IT READS IS OF BULK AT MOST 1048576: true; the input reads as it did. -/
def fnLaddersGoneDownUptoRow : OpenClaim := { program := "ytaheijeojbimeaa", sum := "02d346c61d386cc2c8e28c851c2f516dd7dc24e9796ce31dec5435b11767df1a", func := "loop.example/g01209/laws.FnLaddersGoneDown", spec := "fnLaddersGoneDown", unfollowed := true, recurses := true, apart := false, narrowed := true }
def FnLaddersGoneDownUptoSaid : Prop := fnLaddersGoneDownUptoRow.holds Try.pinned (OpenSpec.upto fnLaddersGoneDownSpec)

end Rows
end Go.Proofs.Ytaheijeojbimeaa
