/-
  DERIVED. GIVEN WITH THE SEED: THE CARDS: each row of YtlmiiijjjcddkaaGreatDoorRows.lean that lists a variable, with what it lists TIED to the program's text (the seventh form; the later family's looks); each row that meets fmt, with fmt's text TOLD by the authors' own Lean function (tested against real Go, not proved from fmt's source: count such statements apart). THE CARD IS WHAT COUNTS. Prove the row's statement (the work); the ties are given (YtlmiiijjjcddkaaGreatDoorTie.lean); close each card by the builder's one call (the guide's Derived/Test/ToyasCard.lean, 'card_holds'). Laid BY PROGRAM, IN A SANDBOX (cutbox-door.mjs). By AI agents, Wed Nov 11 2026. No macro, syntax, notation, axiom, sorry.
-/
import Derived.Test.YtlmiiijjjcddkaaGreatDoorRows
import GoSem.ClaimSeven
namespace Go.Proofs.YtlmiiijjjcddkaaGreatDoor
namespace Rows

/-- THE TIED CARD OF 'laws.FnLaddersChanged'. -/
def fnLaddersChangedCard : Claim7 := { stood := { row := fnLaddersChangedRow, standIns := [], harness := (true, "8e3868a94941c2f6bb8997aa2b24ea66b56f60af904db479f9a9eef048982122"), looks := true }, kinds := [], alts := [], laidByText := true, laidKinds := [.data, .data, .data, .data, .sentinel, .sentinel, .pinned], laidTests := true, laidLooks := .later }
def FnLaddersChangedCardSaid : Prop := Claim7.holds Tryz.pinned (.plain (OpenSpec.ofChange fnLaddersChangedSpec)) fnLaddersChangedCard

/-- THE TIED CARD OF 'laws.FnRungsMoved'. -/
def fnRungsMovedCard : Claim7 := { stood := { row := fnRungsMovedRow, standIns := [], harness := (true, "8e3868a94941c2f6bb8997aa2b24ea66b56f60af904db479f9a9eef048982122"), looks := true }, kinds := [], alts := [], laidByText := true, laidKinds := [.data, .data, .data, .sentinel, .sentinel], laidTests := true, laidLooks := .later }
def FnRungsMovedCardSaid : Prop := Claim7.holds Tryz.pinned (.plain (OpenSpec.ofChange fnRungsMovedSpec)) fnRungsMovedCard

/-- THE SECOND FORM's CARD OF 'laws.FnLaddersChanged'. -/
def fnLaddersChangedUptoCard : Claim7 := { stood := { row := fnLaddersChangedUptoRow, standIns := [], harness := (true, "8e3868a94941c2f6bb8997aa2b24ea66b56f60af904db479f9a9eef048982122"), looks := true }, kinds := [], alts := [], laidByText := true, laidKinds := [.data, .data, .data, .data, .sentinel, .sentinel, .pinned], laidTests := true, laidLooks := .later }
def FnLaddersChangedUptoCardSaid : Prop := Claim7.holds Tryz.pinned (.plain (OpenSpec.upto fnLaddersChangedSpec)) fnLaddersChangedUptoCard

/-- THE SECOND FORM's CARD OF 'laws.FnRungsMoved'. -/
def fnRungsMovedUptoCard : Claim7 := { stood := { row := fnRungsMovedUptoRow, standIns := [], harness := (true, "8e3868a94941c2f6bb8997aa2b24ea66b56f60af904db479f9a9eef048982122"), looks := true }, kinds := [], alts := [], laidByText := true, laidKinds := [.data, .data, .data, .sentinel, .sentinel], laidTests := true, laidLooks := .later }
def FnRungsMovedUptoCardSaid : Prop := Claim7.holds Tryz.pinned (.plain (OpenSpec.upto fnRungsMovedSpec)) fnRungsMovedUptoCard
end Rows
end Go.Proofs.YtlmiiijjjcddkaaGreatDoor
