/-
  DERIVED. GIVEN WITH THE SEED: THE CARDS: each row of YtmjablkekmhnhaaDoorRows.lean that lists a variable, with what it lists TIED to the program's text (the seventh form; the later family's looks); each row that meets fmt, with fmt's text TOLD by the authors' own Lean function (tested against real Go, not proved from fmt's source: count such statements apart). THE CARD IS WHAT COUNTS. Prove the row's statement (the work); the ties are given (YtmjablkekmhnhaaDoorTie.lean); close each card by the builder's one call (the guide's Derived/Test/ToyasCard.lean, 'card_holds'). Laid BY PROGRAM, IN A SANDBOX (cutbox-door.mjs). By AI agents, Wed Nov 11 2026. No macro, syntax, notation, axiom, sorry.
-/
import Derived.Test.YtmjablkekmhnhaaDoorRows
import GoSem.ClaimSeven
namespace Go.Proofs.YtmjablkekmhnhaaDoor
namespace Rows

/-- THE TIED CARD OF 'laws.FnExactSnailText'. -/
def fnExactSnailTextCard : Claim7 := { stood := { row := fnExactSnailTextRow, standIns := [], harness := (true, "6250f51cae0a0125c134ccabb32174e4b7b4d35196b23a662552722264a3b5b2"), looks := true }, kinds := [], alts := [], laidByText := true, laidKinds := [.data, .data, .data], laidTests := true, laidLooks := .later }
def FnExactSnailTextCardSaid : Prop := Claim7.holds Tryd.pinned (.plain (OpenSpec.ofChange fnExactSnailTextSpec)) fnExactSnailTextCard

/-- THE TIED CARD OF 'laws.FnExactParseSnail'. -/
def fnExactParseSnailCard : Claim7 := { stood := { row := fnExactParseSnailRow, standIns := [], harness := (true, "6250f51cae0a0125c134ccabb32174e4b7b4d35196b23a662552722264a3b5b2"), looks := true }, kinds := [], alts := [], laidByText := true, laidKinds := [.data, .data, .data, .data, .sentinel, .sentinel, .pinned], laidTests := true, laidLooks := .later }
def FnExactParseSnailCardSaid : Prop := Claim7.holds Tryd.pinned (.plain (OpenSpec.ofChange fnExactParseSnailSpec)) fnExactParseSnailCard

/-- THE SECOND FORM's CARD OF 'laws.FnExactSnailText'. -/
def fnExactSnailTextUptoCard : Claim7 := { stood := { row := fnExactSnailTextUptoRow, standIns := [], harness := (true, "6250f51cae0a0125c134ccabb32174e4b7b4d35196b23a662552722264a3b5b2"), looks := true }, kinds := [], alts := [], laidByText := true, laidKinds := [.data, .data, .data], laidTests := true, laidLooks := .later }
def FnExactSnailTextUptoCardSaid : Prop := Claim7.holds Tryd.pinned (.plain (OpenSpec.upto fnExactSnailTextSpec)) fnExactSnailTextUptoCard

/-- THE SECOND FORM's CARD OF 'laws.FnExactParseSnail'. -/
def fnExactParseSnailUptoCard : Claim7 := { stood := { row := fnExactParseSnailUptoRow, standIns := [], harness := (true, "6250f51cae0a0125c134ccabb32174e4b7b4d35196b23a662552722264a3b5b2"), looks := true }, kinds := [], alts := [], laidByText := true, laidKinds := [.data, .data, .data, .data, .sentinel, .sentinel, .pinned], laidTests := true, laidLooks := .later }
def FnExactParseSnailUptoCardSaid : Prop := Claim7.holds Tryd.pinned (.plain (OpenSpec.upto fnExactParseSnailSpec)) fnExactParseSnailUptoCard
end Rows
end Go.Proofs.YtmjablkekmhnhaaDoor
