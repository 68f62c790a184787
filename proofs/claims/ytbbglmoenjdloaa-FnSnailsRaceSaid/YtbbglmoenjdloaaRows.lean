/-
  No cell of these rows narrows 'for every input' (looked for: loops, veiled, ifaces, maps, wideKeys, modest, calm, conditions, laid).
  DERIVED. THE GIVEN ROWS OF THIS SEAT. 8 by the template 'for every input the law returns true; each argument reads behind the call as it read before'; 0 by the template 'total and deterministic' (their statements: YtbbglmoenjdloaaTotals.lean).
  GIVEN WITH THE SEED: the statements are not yours to turn. If you find one false, say at which input.
  Laid BY PROGRAM, IN A SANDBOX (cutbox-rows.mjs): the forced cells as the released guide's own fill.sh prints them over the translation c119a9aa689cdb72… (all of the seat's roots in one cut). By AI agents, Wed Nov 11 2026. No macro, syntax, notation, axiom, sorry.
-/
import Derived.Test.YtbbglmoenjdloaaChecked
import GoSem.Claim
import GoSem.ClaimJoined
import GoSem.ClaimMapViews
import Derived.JoinedTies
import Derived.KernelRfl
namespace Go.Proofs.Ytbbglmoenjdloaa
/- THE CELL 'sum', in the pinned program and in every row, IS THE sha256 OF THE DUMP (.gsa) THAT YtbbglmoenjdloaaProg.lean LOADS. Nothing in Lean hashes anything: it is a label: what it is worth is what the hold of that sum in a sandbox is worth. -/
noncomputable def Try.pinned : Pinned := { name := "ytbbglmoenjdloaa", sum := "c119a9aa689cdb72cbdbf06a44c3058dc06dc93cd92d78a35d089e4432e724e7", checked := Try.checked }
namespace Rows
def none {H : Type} : Left H := { results := [], args := [] }

/-- 'laws.FnExactWhoWins': WHATEVER THE INPUT: true; the input reads as it did. -/
def fnExactWhoWinsSpec : ChangeSpec := { name := "fnExactWhoWins", fn := fun _ => fun
  | [d1, d2, d3] => { results := [.lit (.bool true)], args := [d1, d2, d3] }
  | _ => none }
def fnExactWhoWinsRow : OpenClaim := { program := "ytbbglmoenjdloaa", sum := "c119a9aa689cdb72cbdbf06a44c3058dc06dc93cd92d78a35d089e4432e724e7", func := "loop.example/g01335/laws.FnExactWhoWins", spec := "fnExactWhoWins", apart := false }
def FnExactWhoWinsSaid : Prop := fnExactWhoWinsRow.holds Try.pinned (OpenSpec.ofChange fnExactWhoWinsSpec)

/-- ITS FALSE NEIGHBOUR: 'it returns false'. Refute it at one input. -/
def fnExactWhoWinsWrong : ChangeSpec := { name := "fnExactWhoWins", fn := fun _ => fun
  | [d1, d2, d3] => { results := [.lit (.bool false)], args := [d1, d2, d3] }
  | _ => none }
def FnExactWhoWinsWrongFalsely : Prop := fnExactWhoWinsRow.holds Try.pinned (OpenSpec.ofChange fnExactWhoWinsWrong)

/-- 'laws.FnExactGreatestWithSlips': WHATEVER THE INPUT: true; the input reads as it did. -/
def fnExactGreatestWithSlipsSpec : ChangeSpec := { name := "fnExactGreatestWithSlips", fn := fun _ => fun
  | [d1, d2, d3] => { results := [.lit (.bool true)], args := [d1, d2, d3] }
  | _ => none }
def fnExactGreatestWithSlipsRow : OpenClaim := { program := "ytbbglmoenjdloaa", sum := "c119a9aa689cdb72cbdbf06a44c3058dc06dc93cd92d78a35d089e4432e724e7", func := "loop.example/g01335/laws.FnExactGreatestWithSlips", spec := "fnExactGreatestWithSlips", apart := false }
def FnExactGreatestWithSlipsSaid : Prop := fnExactGreatestWithSlipsRow.holds Try.pinned (OpenSpec.ofChange fnExactGreatestWithSlipsSpec)

/-- ITS FALSE NEIGHBOUR: 'it returns false'. Refute it at one input. -/
def fnExactGreatestWithSlipsWrong : ChangeSpec := { name := "fnExactGreatestWithSlips", fn := fun _ => fun
  | [d1, d2, d3] => { results := [.lit (.bool false)], args := [d1, d2, d3] }
  | _ => none }
def FnExactGreatestWithSlipsWrongFalsely : Prop := fnExactGreatestWithSlipsRow.holds Try.pinned (OpenSpec.ofChange fnExactGreatestWithSlipsWrong)

/-- 'laws.FnExactDaysWithSlips': WHATEVER THE INPUT: true; the input reads as it did. -/
def fnExactDaysWithSlipsSpec : ChangeSpec := { name := "fnExactDaysWithSlips", fn := fun _ => fun
  | [d1, d2, d3] => { results := [.lit (.bool true)], args := [d1, d2, d3] }
  | _ => none }
def fnExactDaysWithSlipsRow : OpenClaim := { program := "ytbbglmoenjdloaa", sum := "c119a9aa689cdb72cbdbf06a44c3058dc06dc93cd92d78a35d089e4432e724e7", func := "loop.example/g01335/laws.FnExactDaysWithSlips", spec := "fnExactDaysWithSlips", apart := false }
def FnExactDaysWithSlipsSaid : Prop := fnExactDaysWithSlipsRow.holds Try.pinned (OpenSpec.ofChange fnExactDaysWithSlipsSpec)

/-- ITS FALSE NEIGHBOUR: 'it returns false'. Refute it at one input. -/
def fnExactDaysWithSlipsWrong : ChangeSpec := { name := "fnExactDaysWithSlips", fn := fun _ => fun
  | [d1, d2, d3] => { results := [.lit (.bool false)], args := [d1, d2, d3] }
  | _ => none }
def FnExactDaysWithSlipsWrongFalsely : Prop := fnExactDaysWithSlipsRow.holds Try.pinned (OpenSpec.ofChange fnExactDaysWithSlipsWrong)

/-- 'laws.FnExactTimesPassed': WHATEVER THE INPUT: true; the input reads as it did. -/
def fnExactTimesPassedSpec : ChangeSpec := { name := "fnExactTimesPassed", fn := fun _ => fun
  | [d1, d2, d3] => { results := [.lit (.bool true)], args := [d1, d2, d3] }
  | _ => none }
def fnExactTimesPassedRow : OpenClaim := { program := "ytbbglmoenjdloaa", sum := "c119a9aa689cdb72cbdbf06a44c3058dc06dc93cd92d78a35d089e4432e724e7", func := "loop.example/g01335/laws.FnExactTimesPassed", spec := "fnExactTimesPassed", apart := false }
def FnExactTimesPassedSaid : Prop := fnExactTimesPassedRow.holds Try.pinned (OpenSpec.ofChange fnExactTimesPassedSpec)

/-- ITS FALSE NEIGHBOUR: 'it returns false'. Refute it at one input. -/
def fnExactTimesPassedWrong : ChangeSpec := { name := "fnExactTimesPassed", fn := fun _ => fun
  | [d1, d2, d3] => { results := [.lit (.bool false)], args := [d1, d2, d3] }
  | _ => none }
def FnExactTimesPassedWrongFalsely : Prop := fnExactTimesPassedRow.holds Try.pinned (OpenSpec.ofChange fnExactTimesPassedWrong)

/-- 'laws.FnExactHeightsWithSlips': WHATEVER THE INPUT: true; the input reads as it did. -/
def fnExactHeightsWithSlipsSpec : ChangeSpec := { name := "fnExactHeightsWithSlips", fn := fun _ => fun
  | [d1, d2, d3, d4] => { results := [.lit (.bool true)], args := [d1, d2, d3, d4] }
  | _ => none }
def fnExactHeightsWithSlipsRow : OpenClaim := { program := "ytbbglmoenjdloaa", sum := "c119a9aa689cdb72cbdbf06a44c3058dc06dc93cd92d78a35d089e4432e724e7", func := "loop.example/g01335/laws.FnExactHeightsWithSlips", spec := "fnExactHeightsWithSlips", apart := false }
def FnExactHeightsWithSlipsSaid : Prop := fnExactHeightsWithSlipsRow.holds Try.pinned (OpenSpec.ofChange fnExactHeightsWithSlipsSpec)

/-- ITS FALSE NEIGHBOUR: 'it returns false'. Refute it at one input. -/
def fnExactHeightsWithSlipsWrong : ChangeSpec := { name := "fnExactHeightsWithSlips", fn := fun _ => fun
  | [d1, d2, d3, d4] => { results := [.lit (.bool false)], args := [d1, d2, d3, d4] }
  | _ => none }
def FnExactHeightsWithSlipsWrongFalsely : Prop := fnExactHeightsWithSlipsRow.holds Try.pinned (OpenSpec.ofChange fnExactHeightsWithSlipsWrong)

/-- 'laws.FnExactLeadChanges': WHATEVER THE INPUT: true; the input reads as it did. -/
def fnExactLeadChangesSpec : ChangeSpec := { name := "fnExactLeadChanges", fn := fun _ => fun
  | [d1, d2, d3] => { results := [.lit (.bool true)], args := [d1, d2, d3] }
  | _ => none }
def fnExactLeadChangesRow : OpenClaim := { program := "ytbbglmoenjdloaa", sum := "c119a9aa689cdb72cbdbf06a44c3058dc06dc93cd92d78a35d089e4432e724e7", func := "loop.example/g01335/laws.FnExactLeadChanges", spec := "fnExactLeadChanges", apart := false }
def FnExactLeadChangesSaid : Prop := fnExactLeadChangesRow.holds Try.pinned (OpenSpec.ofChange fnExactLeadChangesSpec)

/-- ITS FALSE NEIGHBOUR: 'it returns false'. Refute it at one input. -/
def fnExactLeadChangesWrong : ChangeSpec := { name := "fnExactLeadChanges", fn := fun _ => fun
  | [d1, d2, d3] => { results := [.lit (.bool false)], args := [d1, d2, d3] }
  | _ => none }
def FnExactLeadChangesWrongFalsely : Prop := fnExactLeadChangesRow.holds Try.pinned (OpenSpec.ofChange fnExactLeadChangesWrong)

/-- 'laws.FnSnailsRaceOfAll': WHATEVER THE INPUT: true; the input reads as it did. -/
def fnSnailsRaceOfAllSpec : ChangeSpec := { name := "fnSnailsRaceOfAll", fn := fun _ => fun
  | [d1, d2, d3, d4, d5, d6, d7, d8] => { results := [.lit (.bool true)], args := [d1, d2, d3, d4, d5, d6, d7, d8] }
  | _ => none }
def fnSnailsRaceOfAllRow : OpenClaim := { program := "ytbbglmoenjdloaa", sum := "c119a9aa689cdb72cbdbf06a44c3058dc06dc93cd92d78a35d089e4432e724e7", func := "loop.example/g01335/laws.FnSnailsRaceOfAll", spec := "fnSnailsRaceOfAll", apart := false }
def FnSnailsRaceOfAllSaid : Prop := fnSnailsRaceOfAllRow.holds Try.pinned (OpenSpec.ofChange fnSnailsRaceOfAllSpec)

/-- ITS FALSE NEIGHBOUR: 'it returns false'. Refute it at one input. -/
def fnSnailsRaceOfAllWrong : ChangeSpec := { name := "fnSnailsRaceOfAll", fn := fun _ => fun
  | [d1, d2, d3, d4, d5, d6, d7, d8] => { results := [.lit (.bool false)], args := [d1, d2, d3, d4, d5, d6, d7, d8] }
  | _ => none }
def FnSnailsRaceOfAllWrongFalsely : Prop := fnSnailsRaceOfAllRow.holds Try.pinned (OpenSpec.ofChange fnSnailsRaceOfAllWrong)

/-- 'laws.FnSnailsRace': WHATEVER THE INPUT: true; the input reads as it did. -/
def fnSnailsRaceSpec : ChangeSpec := { name := "fnSnailsRace", fn := fun _ => fun
  | [d1, d2] => { results := [.lit (.bool true)], args := [d1, d2] }
  | _ => none }
def fnSnailsRaceRow : OpenClaim := { program := "ytbbglmoenjdloaa", sum := "c119a9aa689cdb72cbdbf06a44c3058dc06dc93cd92d78a35d089e4432e724e7", func := "loop.example/g01335/laws.FnSnailsRace", spec := "fnSnailsRace", apart := false }
def FnSnailsRaceSaid : Prop := fnSnailsRaceRow.holds Try.pinned (OpenSpec.ofChange fnSnailsRaceSpec)

/-- ITS FALSE NEIGHBOUR: 'it returns false'. Refute it at one input. -/
def fnSnailsRaceWrong : ChangeSpec := { name := "fnSnailsRace", fn := fun _ => fun
  | [d1, d2] => { results := [.lit (.bool false)], args := [d1, d2] }
  | _ => none }
def FnSnailsRaceWrongFalsely : Prop := fnSnailsRaceRow.holds Try.pinned (OpenSpec.ofChange fnSnailsRaceWrong)

/- THE SECOND FORM. 'bulk': how many values and letters a reading holds, each counted each time it is reached (what is shared counts as often as it is met; a slice's spare places count too). A statement '..UptoSaid' is the law's where the arguments, and the package variables that the reading takes, are together of bulk at most 1048576: NARROWER than '..Said'. Prove '..Said' where nothing that the law and all that it calls make is longer than what came in: it says more and counts as full. Else prove '..UptoSaid'. A law counts once. -/
mutual
def uptoBulk {H : Type} : DataW H → Nat
  | .lit (.string bytes) => bytes.length + 1
  | .lit _ => 1
  | .nil => 1
  | .ptr d => uptoBulk d + 1
  | .slice elems spare => uptoBulkAll elems + uptoBulkAll spare + 1
  | .agg parts => uptoBulkAll parts + 1
  | .iface _ d => uptoBulk d + 1
  | .map entries => uptoBulkEntries entries + 1
  | .held _ => 1
def uptoBulkAll {H : Type} : List (DataW H) → Nat
  | [] => 0
  | d :: r => uptoBulk d + uptoBulkAll r
def uptoBulkEntries {H : Type} : List (Lit × DataW H) → Nat
  | [] => 0
  | x :: r => uptoBulkEntry x + uptoBulkEntries r
def uptoBulkEntry {H : Type} : Lit × DataW H → Nat
  | (.string bytes, d) => bytes.length + uptoBulk d + 1
  | (_, d) => uptoBulk d + 1
 end
def uptoSmall : (H : Type) → List (DataW H) → Bool := fun _ ds => decide (uptoBulkAll ds ≤ 1048576)
def OpenSpec.upto (s : _root_.Go.ChangeSpec) : _root_.Go.OpenSpec := { _root_.Go.OpenSpec.ofChange s with cond := some uptoSmall }

/-- 'laws.FnExactWhoWins', WHERE WHAT IT READS IS OF BULK AT MOST 1048576: true; the input reads as it did. -/
def fnExactWhoWinsUptoRow : OpenClaim := { program := "ytbbglmoenjdloaa", sum := "c119a9aa689cdb72cbdbf06a44c3058dc06dc93cd92d78a35d089e4432e724e7", func := "loop.example/g01335/laws.FnExactWhoWins", spec := "fnExactWhoWins", apart := false, narrowed := true }
def FnExactWhoWinsUptoSaid : Prop := fnExactWhoWinsUptoRow.holds Try.pinned (OpenSpec.upto fnExactWhoWinsSpec)

/-- 'laws.FnExactGreatestWithSlips', WHERE WHAT IT READS IS OF BULK AT MOST 1048576: true; the input reads as it did. -/
def fnExactGreatestWithSlipsUptoRow : OpenClaim := { program := "ytbbglmoenjdloaa", sum := "c119a9aa689cdb72cbdbf06a44c3058dc06dc93cd92d78a35d089e4432e724e7", func := "loop.example/g01335/laws.FnExactGreatestWithSlips", spec := "fnExactGreatestWithSlips", apart := false, narrowed := true }
def FnExactGreatestWithSlipsUptoSaid : Prop := fnExactGreatestWithSlipsUptoRow.holds Try.pinned (OpenSpec.upto fnExactGreatestWithSlipsSpec)

/-- 'laws.FnExactDaysWithSlips', WHERE WHAT IT READS IS OF BULK AT MOST 1048576: true; the input reads as it did. -/
def fnExactDaysWithSlipsUptoRow : OpenClaim := { program := "ytbbglmoenjdloaa", sum := "c119a9aa689cdb72cbdbf06a44c3058dc06dc93cd92d78a35d089e4432e724e7", func := "loop.example/g01335/laws.FnExactDaysWithSlips", spec := "fnExactDaysWithSlips", apart := false, narrowed := true }
def FnExactDaysWithSlipsUptoSaid : Prop := fnExactDaysWithSlipsUptoRow.holds Try.pinned (OpenSpec.upto fnExactDaysWithSlipsSpec)

/-- 'laws.FnExactTimesPassed', WHERE WHAT IT READS IS OF BULK AT MOST 1048576: true; the input reads as it did. -/
def fnExactTimesPassedUptoRow : OpenClaim := { program := "ytbbglmoenjdloaa", sum := "c119a9aa689cdb72cbdbf06a44c3058dc06dc93cd92d78a35d089e4432e724e7", func := "loop.example/g01335/laws.FnExactTimesPassed", spec := "fnExactTimesPassed", apart := false, narrowed := true }
def FnExactTimesPassedUptoSaid : Prop := fnExactTimesPassedUptoRow.holds Try.pinned (OpenSpec.upto fnExactTimesPassedSpec)

/-- 'laws.FnExactHeightsWithSlips', WHERE WHAT IT READS IS OF BULK AT MOST 1048576: true; the input reads as it did. -/
def fnExactHeightsWithSlipsUptoRow : OpenClaim := { program := "ytbbglmoenjdloaa", sum := "c119a9aa689cdb72cbdbf06a44c3058dc06dc93cd92d78a35d089e4432e724e7", func := "loop.example/g01335/laws.FnExactHeightsWithSlips", spec := "fnExactHeightsWithSlips", apart := false, narrowed := true }
def FnExactHeightsWithSlipsUptoSaid : Prop := fnExactHeightsWithSlipsUptoRow.holds Try.pinned (OpenSpec.upto fnExactHeightsWithSlipsSpec)

/-- 'laws.FnExactLeadChanges', WHERE WHAT IT READS IS OF BULK AT MOST 1048576: true; the input reads as it did. -/
def fnExactLeadChangesUptoRow : OpenClaim := { program := "ytbbglmoenjdloaa", sum := "c119a9aa689cdb72cbdbf06a44c3058dc06dc93cd92d78a35d089e4432e724e7", func := "loop.example/g01335/laws.FnExactLeadChanges", spec := "fnExactLeadChanges", apart := false, narrowed := true }
def FnExactLeadChangesUptoSaid : Prop := fnExactLeadChangesUptoRow.holds Try.pinned (OpenSpec.upto fnExactLeadChangesSpec)

/-- 'laws.FnSnailsRaceOfAll', WHERE WHAT IT READS IS OF BULK AT MOST 1048576: true; the input reads as it did. -/
def fnSnailsRaceOfAllUptoRow : OpenClaim := { program := "ytbbglmoenjdloaa", sum := "c119a9aa689cdb72cbdbf06a44c3058dc06dc93cd92d78a35d089e4432e724e7", func := "loop.example/g01335/laws.FnSnailsRaceOfAll", spec := "fnSnailsRaceOfAll", apart := false, narrowed := true }
def FnSnailsRaceOfAllUptoSaid : Prop := fnSnailsRaceOfAllUptoRow.holds Try.pinned (OpenSpec.upto fnSnailsRaceOfAllSpec)

/-- 'laws.FnSnailsRace', WHERE WHAT IT READS IS OF BULK AT MOST 1048576: true; the input reads as it did. -/
def fnSnailsRaceUptoRow : OpenClaim := { program := "ytbbglmoenjdloaa", sum := "c119a9aa689cdb72cbdbf06a44c3058dc06dc93cd92d78a35d089e4432e724e7", func := "loop.example/g01335/laws.FnSnailsRace", spec := "fnSnailsRace", apart := false, narrowed := true }
def FnSnailsRaceUptoSaid : Prop := fnSnailsRaceUptoRow.holds Try.pinned (OpenSpec.upto fnSnailsRaceSpec)

end Rows
end Go.Proofs.Ytbbglmoenjdloaa
