/-
  DERIVED. GIVEN WITH THE SEED: THE CARDS: each row of YtaoejhikigljeaaGreatDoorRows.lean that lists a variable, with what it lists TIED to the program's text (the seventh form; the later family's looks); each row that meets fmt, with fmt's text TOLD by the authors' own Lean function (tested against real Go, not proved from fmt's source: count such statements apart). THE CARD IS WHAT COUNTS. Prove the row's statement (the work); the ties are given (YtaoejhikigljeaaGreatDoorTie.lean); close each card by the builder's one call (the guide's Derived/Test/ToyasCard.lean, 'card_holds'). Laid BY PROGRAM, IN A SANDBOX (cutbox-door.mjs). By AI agents, Wed Nov 11 2026. No macro, syntax, notation, axiom, sorry.
-/
import Derived.Test.YtaoejhikigljeaaGreatDoorRows
import GoSem.ClaimSeven
namespace Go.Proofs.YtaoejhikigljeaaGreatDoor
namespace Rows

/-- THE TIED CARD OF 'laws.FnSnailsClimb'. -/
def fnSnailsClimbCard : Claim7 := { stood := { row := fnSnailsClimbRow, standIns := [], harness := (true, "101911f16b46a5cb572adaca88d2598a2094ea0539b9ba5f4a03aa01b07d3b65"), looks := true }, kinds := [], alts := [], laidByText := true, laidKinds := [.data, .data, .data, .data, .sentinel, .sentinel, .pinned], laidTests := true, laidLooks := .later }
def FnSnailsClimbCardSaid : Prop := Claim7.holds Tryz.pinned (.plain (OpenSpec.ofChange fnSnailsClimbSpec)) fnSnailsClimbCard

/-- THE SECOND FORM's CARD OF 'laws.FnSnailsClimb'. -/
def fnSnailsClimbUptoCard : Claim7 := { stood := { row := fnSnailsClimbUptoRow, standIns := [], harness := (true, "101911f16b46a5cb572adaca88d2598a2094ea0539b9ba5f4a03aa01b07d3b65"), looks := true }, kinds := [], alts := [], laidByText := true, laidKinds := [.data, .data, .data, .data, .sentinel, .sentinel, .pinned], laidTests := true, laidLooks := .later }
def FnSnailsClimbUptoCardSaid : Prop := Claim7.holds Tryz.pinned (.plain (OpenSpec.upto fnSnailsClimbSpec)) fnSnailsClimbUptoCard
end Rows
end Go.Proofs.YtaoejhikigljeaaGreatDoor
