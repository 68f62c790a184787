/-
  DERIVED. GIVEN WITH THE SEED: THE CARDS: each row of YtoideilmkcpilaaGreatDoorRows.lean that lists a variable, with what it lists TIED to the program's text (the seventh form; the later family's looks); each row that meets fmt, with fmt's text TOLD by the authors' own Lean function (tested against real Go, not proved from fmt's source: count such statements apart). THE CARD IS WHAT COUNTS. Prove the row's statement (the work); the ties are given (YtoideilmkcpilaaGreatDoorTie.lean); close each card by the builder's one call (the guide's Derived/Test/ToyasCard.lean, 'card_holds'). Laid BY PROGRAM, IN A SANDBOX (cutbox-door.mjs). By AI agents, Wed Nov 11 2026. No macro, syntax, notation, axiom, sorry.
-/
import Derived.Test.YtoideilmkcpilaaGreatDoorRows
import GoSem.ClaimSeven
namespace Go.Proofs.YtoideilmkcpilaaGreatDoor
namespace Rows

/-- THE TIED CARD OF 'laws.FnWalkersMeet'. -/
def fnWalkersMeetCard : Claim7 := { stood := { row := fnWalkersMeetRow, standIns := [], harness := (true, "a8ce1e88c4222c62777256dc1bb296c1b73c1eebc96c881c2de8a985bcb6882c"), looks := true }, kinds := [], alts := [], laidByText := true, laidKinds := [.data, .data, .data, .data, .sentinel, .sentinel, .pinned], laidTests := true, laidLooks := .later }
def FnWalkersMeetCardSaid : Prop := Claim7.holds Tryz.pinned (.plain (OpenSpec.ofChange fnWalkersMeetSpec)) fnWalkersMeetCard

/-- THE SECOND FORM's CARD OF 'laws.FnWalkersMeet'. -/
def fnWalkersMeetUptoCard : Claim7 := { stood := { row := fnWalkersMeetUptoRow, standIns := [], harness := (true, "a8ce1e88c4222c62777256dc1bb296c1b73c1eebc96c881c2de8a985bcb6882c"), looks := true }, kinds := [], alts := [], laidByText := true, laidKinds := [.data, .data, .data, .data, .sentinel, .sentinel, .pinned], laidTests := true, laidLooks := .later }
def FnWalkersMeetUptoCardSaid : Prop := Claim7.holds Tryz.pinned (.plain (OpenSpec.upto fnWalkersMeetSpec)) fnWalkersMeetUptoCard
end Rows
end Go.Proofs.YtoideilmkcpilaaGreatDoor
