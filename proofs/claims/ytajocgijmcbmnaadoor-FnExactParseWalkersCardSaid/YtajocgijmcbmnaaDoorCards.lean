/-
  DERIVED. GIVEN WITH THE SEED: THE CARDS: each row of YtajocgijmcbmnaaDoorRows.lean that lists a variable, with what it lists TIED to the program's text (the seventh form; the later family's looks); each row that meets fmt, with fmt's text TOLD by the authors' own Lean function (tested against real Go, not proved from fmt's source: count such statements apart). THE CARD IS WHAT COUNTS. Prove the row's statement (the work); the ties are given (YtajocgijmcbmnaaDoorTie.lean); close each card by the builder's one call (the guide's Derived/Test/ToyasCard.lean, 'card_holds'). Laid BY PROGRAM, IN A SANDBOX (cutbox-door.mjs). By AI agents, Wed Nov 11 2026. No macro, syntax, notation, axiom, sorry.
-/
import Derived.Test.YtajocgijmcbmnaaDoorRows
import GoSem.ClaimSeven
namespace Go.Proofs.YtajocgijmcbmnaaDoor
namespace Rows

/-- THE TIED CARD OF 'laws.FnExactWalkersText'. -/
def fnExactWalkersTextCard : Claim7 := { stood := { row := fnExactWalkersTextRow, standIns := [], harness := (true, "b9f0052428ae4f9b9c2299394c876f08e8a8049a4ce3939199783fbf53729c90"), looks := true }, kinds := [], alts := [], laidByText := true, laidKinds := [.data, .data, .data], laidTests := true, laidLooks := .later }
def FnExactWalkersTextCardSaid : Prop := Claim7.holds Tryd.pinned (.plain (OpenSpec.ofChange fnExactWalkersTextSpec)) fnExactWalkersTextCard

/-- THE TIED CARD OF 'laws.FnExactParseWalkers'. -/
def fnExactParseWalkersCard : Claim7 := { stood := { row := fnExactParseWalkersRow, standIns := [], harness := (true, "b9f0052428ae4f9b9c2299394c876f08e8a8049a4ce3939199783fbf53729c90"), looks := true }, kinds := [], alts := [], laidByText := true, laidKinds := [.data, .data, .data, .data, .sentinel, .sentinel, .pinned], laidTests := true, laidLooks := .later }
def FnExactParseWalkersCardSaid : Prop := Claim7.holds Tryd.pinned (.plain (OpenSpec.ofChange fnExactParseWalkersSpec)) fnExactParseWalkersCard

/-- THE SECOND FORM's CARD OF 'laws.FnExactWalkersText'. -/
def fnExactWalkersTextUptoCard : Claim7 := { stood := { row := fnExactWalkersTextUptoRow, standIns := [], harness := (true, "b9f0052428ae4f9b9c2299394c876f08e8a8049a4ce3939199783fbf53729c90"), looks := true }, kinds := [], alts := [], laidByText := true, laidKinds := [.data, .data, .data], laidTests := true, laidLooks := .later }
def FnExactWalkersTextUptoCardSaid : Prop := Claim7.holds Tryd.pinned (.plain (OpenSpec.upto fnExactWalkersTextSpec)) fnExactWalkersTextUptoCard

/-- THE SECOND FORM's CARD OF 'laws.FnExactParseWalkers'. -/
def fnExactParseWalkersUptoCard : Claim7 := { stood := { row := fnExactParseWalkersUptoRow, standIns := [], harness := (true, "b9f0052428ae4f9b9c2299394c876f08e8a8049a4ce3939199783fbf53729c90"), looks := true }, kinds := [], alts := [], laidByText := true, laidKinds := [.data, .data, .data, .data, .sentinel, .sentinel, .pinned], laidTests := true, laidLooks := .later }
def FnExactParseWalkersUptoCardSaid : Prop := Claim7.holds Tryd.pinned (.plain (OpenSpec.upto fnExactParseWalkersSpec)) fnExactParseWalkersUptoCard
end Rows
end Go.Proofs.YtajocgijmcbmnaaDoor
