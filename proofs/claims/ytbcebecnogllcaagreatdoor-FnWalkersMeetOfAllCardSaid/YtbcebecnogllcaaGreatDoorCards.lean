/-
  DERIVED. GIVEN WITH THE SEED: THE CARDS: each row of YtbcebecnogllcaaGreatDoorRows.lean that lists a variable, with what it lists TIED to the program's text (the seventh form; the later family's looks); each row that meets fmt, with fmt's text TOLD by the authors' own Lean function (tested against real Go, not proved from fmt's source: count such statements apart). THE CARD IS WHAT COUNTS. Prove the row's statement (the work); the ties are given (YtbcebecnogllcaaGreatDoorTie.lean); close each card by the builder's one call (the guide's Derived/Test/ToyasCard.lean, 'card_holds'). Laid BY PROGRAM, IN A SANDBOX (cutbox-door.mjs). By AI agents, Wed Nov 11 2026. No macro, syntax, notation, axiom, sorry.
-/
import Derived.Test.YtbcebecnogllcaaGreatDoorRows
import GoSem.ClaimSeven
namespace Go.Proofs.YtbcebecnogllcaaGreatDoor
namespace Rows

/-- THE TIED CARD OF 'laws.FnWalkersMeetOfAll'. -/
def fnWalkersMeetOfAllCard : Claim7 := { stood := { row := fnWalkersMeetOfAllRow, standIns := [], harness := (true, "90dbfe3ad273c8b3ff47fe11081f38025e104de3e739b8522ca5e4f88a3e3a41"), looks := true }, kinds := [], alts := [], laidByText := true, laidKinds := [.data, .data, .data, .data, .sentinel, .sentinel, .pinned], laidTests := true, laidLooks := .later }
def FnWalkersMeetOfAllCardSaid : Prop := Claim7.holds Tryz.pinned (.plain (OpenSpec.ofChange fnWalkersMeetOfAllSpec)) fnWalkersMeetOfAllCard

/-- THE SECOND FORM's CARD OF 'laws.FnWalkersMeetOfAll'. -/
def fnWalkersMeetOfAllUptoCard : Claim7 := { stood := { row := fnWalkersMeetOfAllUptoRow, standIns := [], harness := (true, "90dbfe3ad273c8b3ff47fe11081f38025e104de3e739b8522ca5e4f88a3e3a41"), looks := true }, kinds := [], alts := [], laidByText := true, laidKinds := [.data, .data, .data, .data, .sentinel, .sentinel, .pinned], laidTests := true, laidLooks := .later }
def FnWalkersMeetOfAllUptoCardSaid : Prop := Claim7.holds Tryz.pinned (.plain (OpenSpec.upto fnWalkersMeetOfAllSpec)) fnWalkersMeetOfAllUptoCard
end Rows
end Go.Proofs.YtbcebecnogllcaaGreatDoor
