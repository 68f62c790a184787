/-
  No cell of these rows narrows 'for every input' (looked for: loops, veiled, ifaces, maps, wideKeys, modest, calm, conditions, laid).
  DERIVED. THE GIVEN ROWS OF THIS SEAT. 12 by the template 'for every input the law returns true; each argument reads behind the call as it read before'; 0 by the template 'total and deterministic' (their statements: YtndhihjgdjnkaaaTotals.lean).
  GIVEN WITH THE SEED: the statements are not yours to turn. If you find one false, say at which input.
  Laid BY PROGRAM, IN A SANDBOX (cutbox-rows.mjs): the forced cells as the released guide's own fill.sh prints them over the translation e51bee7e8f1044eb… (all of the seat's roots in one cut). By AI agents, Wed Nov 11 2026. No macro, syntax, notation, axiom, sorry.
-/
import Derived.Test.YtndhihjgdjnkaaaChecked
import GoSem.Claim
import GoSem.ClaimJoined
import GoSem.ClaimMapViews
import Derived.JoinedTies
import Derived.KernelRfl
namespace Go.Proofs.Ytndhihjgdjnkaaa
/- THE CELL 'sum', in the pinned program and in every row, IS THE sha256 OF THE DUMP (.gsa) THAT YtndhihjgdjnkaaaProg.lean LOADS. Nothing in Lean hashes anything: it is a label: what it is worth is what the hold of that sum in a sandbox is worth. -/
noncomputable def Try.pinned : Pinned := { name := "ytndhihjgdjnkaaa", sum := "e51bee7e8f1044eb29f18f423829c864132d02706f5753ef96946969aecab3af", checked := Try.checked }
namespace Rows
def none {H : Type} : Left H := { results := [], args := [] }

/-- 'laws.FnExactConstants': WHATEVER THE INPUT: true; the input reads as it did. -/
def fnExactConstantsSpec : ChangeSpec := { name := "fnExactConstants", fn := fun _ => fun
  | [] => { results := [.lit (.bool true)], args := [] }
  | _ => none }
def fnExactConstantsRow : OpenClaim := { program := "ytndhihjgdjnkaaa", sum := "e51bee7e8f1044eb29f18f423829c864132d02706f5753ef96946969aecab3af", func := "loop.example/g01335/laws.FnExactConstants", spec := "fnExactConstants", apart := false }
def FnExactConstantsSaid : Prop := fnExactConstantsRow.holds Try.pinned (OpenSpec.ofChange fnExactConstantsSpec)

/-- ITS FALSE NEIGHBOUR: 'it returns false'. Refute it at one input. -/
def fnExactConstantsWrong : ChangeSpec := { name := "fnExactConstants", fn := fun _ => fun
  | [] => { results := [.lit (.bool false)], args := [] }
  | _ => none }
def FnExactConstantsWrongFalsely : Prop := fnExactConstantsRow.holds Try.pinned (OpenSpec.ofChange fnExactConstantsWrong)

/-- 'laws.FnExactIsSnail': WHATEVER THE INPUT: true; the input reads as it did. -/
def fnExactIsSnailSpec : ChangeSpec := { name := "fnExactIsSnail", fn := fun _ => fun
  | [d] => { results := [.lit (.bool true)], args := [d] }
  | _ => none }
def fnExactIsSnailRow : OpenClaim := { program := "ytndhihjgdjnkaaa", sum := "e51bee7e8f1044eb29f18f423829c864132d02706f5753ef96946969aecab3af", func := "loop.example/g01335/laws.FnExactIsSnail", spec := "fnExactIsSnail", apart := false }
def FnExactIsSnailSaid : Prop := fnExactIsSnailRow.holds Try.pinned (OpenSpec.ofChange fnExactIsSnailSpec)

/-- ITS FALSE NEIGHBOUR: 'it returns false'. Refute it at one input. -/
def fnExactIsSnailWrong : ChangeSpec := { name := "fnExactIsSnail", fn := fun _ => fun
  | [d] => { results := [.lit (.bool false)], args := [d] }
  | _ => none }
def FnExactIsSnailWrongFalsely : Prop := fnExactIsSnailRow.holds Try.pinned (OpenSpec.ofChange fnExactIsSnailWrong)

/-- 'laws.FnExactIsWalker': WHATEVER THE INPUT: true; the input reads as it did. -/
def fnExactIsWalkerSpec : ChangeSpec := { name := "fnExactIsWalker", fn := fun _ => fun
  | [d] => { results := [.lit (.bool true)], args := [d] }
  | _ => none }
def fnExactIsWalkerRow : OpenClaim := { program := "ytndhihjgdjnkaaa", sum := "e51bee7e8f1044eb29f18f423829c864132d02706f5753ef96946969aecab3af", func := "loop.example/g01335/laws.FnExactIsWalker", spec := "fnExactIsWalker", apart := false }
def FnExactIsWalkerSaid : Prop := fnExactIsWalkerRow.holds Try.pinned (OpenSpec.ofChange fnExactIsWalkerSpec)

/-- ITS FALSE NEIGHBOUR: 'it returns false'. Refute it at one input. -/
def fnExactIsWalkerWrong : ChangeSpec := { name := "fnExactIsWalker", fn := fun _ => fun
  | [d] => { results := [.lit (.bool false)], args := [d] }
  | _ => none }
def FnExactIsWalkerWrongFalsely : Prop := fnExactIsWalkerRow.holds Try.pinned (OpenSpec.ofChange fnExactIsWalkerWrong)

/-- 'laws.FnExactGreatestWall': WHATEVER THE INPUT: true; the input reads as it did. -/
def fnExactGreatestWallSpec : ChangeSpec := { name := "fnExactGreatestWall", fn := fun _ => fun
  | [d1, d2] => { results := [.lit (.bool true)], args := [d1, d2] }
  | _ => none }
def fnExactGreatestWallRow : OpenClaim := { program := "ytndhihjgdjnkaaa", sum := "e51bee7e8f1044eb29f18f423829c864132d02706f5753ef96946969aecab3af", func := "loop.example/g01335/laws.FnExactGreatestWall", spec := "fnExactGreatestWall", apart := false }
def FnExactGreatestWallSaid : Prop := fnExactGreatestWallRow.holds Try.pinned (OpenSpec.ofChange fnExactGreatestWallSpec)

/-- ITS FALSE NEIGHBOUR: 'it returns false'. Refute it at one input. -/
def fnExactGreatestWallWrong : ChangeSpec := { name := "fnExactGreatestWall", fn := fun _ => fun
  | [d1, d2] => { results := [.lit (.bool false)], args := [d1, d2] }
  | _ => none }
def FnExactGreatestWallWrongFalsely : Prop := fnExactGreatestWallRow.holds Try.pinned (OpenSpec.ofChange fnExactGreatestWallWrong)

/-- 'laws.FnExactCanClimb': WHATEVER THE INPUT: true; the input reads as it did. -/
def fnExactCanClimbSpec : ChangeSpec := { name := "fnExactCanClimb", fn := fun _ => fun
  | [d1, d2] => { results := [.lit (.bool true)], args := [d1, d2] }
  | _ => none }
def fnExactCanClimbRow : OpenClaim := { program := "ytndhihjgdjnkaaa", sum := "e51bee7e8f1044eb29f18f423829c864132d02706f5753ef96946969aecab3af", func := "loop.example/g01335/laws.FnExactCanClimb", spec := "fnExactCanClimb", apart := false }
def FnExactCanClimbSaid : Prop := fnExactCanClimbRow.holds Try.pinned (OpenSpec.ofChange fnExactCanClimbSpec)

/-- ITS FALSE NEIGHBOUR: 'it returns false'. Refute it at one input. -/
def fnExactCanClimbWrong : ChangeSpec := { name := "fnExactCanClimb", fn := fun _ => fun
  | [d1, d2] => { results := [.lit (.bool false)], args := [d1, d2] }
  | _ => none }
def FnExactCanClimbWrongFalsely : Prop := fnExactCanClimbRow.holds Try.pinned (OpenSpec.ofChange fnExactCanClimbWrong)

/-- 'laws.FnExactMostDown': WHATEVER THE INPUT: true; the input reads as it did. -/
def fnExactMostDownSpec : ChangeSpec := { name := "fnExactMostDown", fn := fun _ => fun
  | [d1, d2, d3] => { results := [.lit (.bool true)], args := [d1, d2, d3] }
  | _ => none }
def fnExactMostDownRow : OpenClaim := { program := "ytndhihjgdjnkaaa", sum := "e51bee7e8f1044eb29f18f423829c864132d02706f5753ef96946969aecab3af", func := "loop.example/g01335/laws.FnExactMostDown", spec := "fnExactMostDown", apart := false }
def FnExactMostDownSaid : Prop := fnExactMostDownRow.holds Try.pinned (OpenSpec.ofChange fnExactMostDownSpec)

/-- ITS FALSE NEIGHBOUR: 'it returns false'. Refute it at one input. -/
def fnExactMostDownWrong : ChangeSpec := { name := "fnExactMostDown", fn := fun _ => fun
  | [d1, d2, d3] => { results := [.lit (.bool false)], args := [d1, d2, d3] }
  | _ => none }
def FnExactMostDownWrongFalsely : Prop := fnExactMostDownRow.holds Try.pinned (OpenSpec.ofChange fnExactMostDownWrong)

/-- 'laws.FnExactSlowestUp': WHATEVER THE INPUT: true; the input reads as it did. -/
def fnExactSlowestUpSpec : ChangeSpec := { name := "fnExactSlowestUp", fn := fun _ => fun
  | [d1, d2, d3] => { results := [.lit (.bool true)], args := [d1, d2, d3] }
  | _ => none }
def fnExactSlowestUpRow : OpenClaim := { program := "ytndhihjgdjnkaaa", sum := "e51bee7e8f1044eb29f18f423829c864132d02706f5753ef96946969aecab3af", func := "loop.example/g01335/laws.FnExactSlowestUp", spec := "fnExactSlowestUp", apart := false }
def FnExactSlowestUpSaid : Prop := fnExactSlowestUpRow.holds Try.pinned (OpenSpec.ofChange fnExactSlowestUpSpec)

/-- ITS FALSE NEIGHBOUR: 'it returns false'. Refute it at one input. -/
def fnExactSlowestUpWrong : ChangeSpec := { name := "fnExactSlowestUp", fn := fun _ => fun
  | [d1, d2, d3] => { results := [.lit (.bool false)], args := [d1, d2, d3] }
  | _ => none }
def FnExactSlowestUpWrongFalsely : Prop := fnExactSlowestUpRow.holds Try.pinned (OpenSpec.ofChange fnExactSlowestUpWrong)

/-- 'laws.FnExactEveningHeight': WHATEVER THE INPUT: true; the input reads as it did. -/
def fnExactEveningHeightSpec : ChangeSpec := { name := "fnExactEveningHeight", fn := fun _ => fun
  | [d1, d2, d3] => { results := [.lit (.bool true)], args := [d1, d2, d3] }
  | _ => none }
def fnExactEveningHeightRow : OpenClaim := { program := "ytndhihjgdjnkaaa", sum := "e51bee7e8f1044eb29f18f423829c864132d02706f5753ef96946969aecab3af", func := "loop.example/g01335/laws.FnExactEveningHeight", spec := "fnExactEveningHeight", apart := false }
def FnExactEveningHeightSaid : Prop := fnExactEveningHeightRow.holds Try.pinned (OpenSpec.ofChange fnExactEveningHeightSpec)

/-- ITS FALSE NEIGHBOUR: 'it returns false'. Refute it at one input. -/
def fnExactEveningHeightWrong : ChangeSpec := { name := "fnExactEveningHeight", fn := fun _ => fun
  | [d1, d2, d3] => { results := [.lit (.bool false)], args := [d1, d2, d3] }
  | _ => none }
def FnExactEveningHeightWrongFalsely : Prop := fnExactEveningHeightRow.holds Try.pinned (OpenSpec.ofChange fnExactEveningHeightWrong)

/-- 'laws.FnExactLeadOf': WHATEVER THE INPUT: true; the input reads as it did. -/
def fnExactLeadOfSpec : ChangeSpec := { name := "fnExactLeadOf", fn := fun _ => fun
  | [d1, d2, d3, d4] => { results := [.lit (.bool true)], args := [d1, d2, d3, d4] }
  | _ => none }
def fnExactLeadOfRow : OpenClaim := { program := "ytndhihjgdjnkaaa", sum := "e51bee7e8f1044eb29f18f423829c864132d02706f5753ef96946969aecab3af", func := "loop.example/g01335/laws.FnExactLeadOf", spec := "fnExactLeadOf", apart := false }
def FnExactLeadOfSaid : Prop := fnExactLeadOfRow.holds Try.pinned (OpenSpec.ofChange fnExactLeadOfSpec)

/-- ITS FALSE NEIGHBOUR: 'it returns false'. Refute it at one input. -/
def fnExactLeadOfWrong : ChangeSpec := { name := "fnExactLeadOf", fn := fun _ => fun
  | [d1, d2, d3, d4] => { results := [.lit (.bool false)], args := [d1, d2, d3, d4] }
  | _ => none }
def FnExactLeadOfWrongFalsely : Prop := fnExactLeadOfRow.holds Try.pinned (OpenSpec.ofChange fnExactLeadOfWrong)

/-- 'laws.FnExactDayOfHeight': WHATEVER THE INPUT: true; the input reads as it did. -/
def fnExactDayOfHeightSpec : ChangeSpec := { name := "fnExactDayOfHeight", fn := fun _ => fun
  | [d1, d2, d3] => { results := [.lit (.bool true)], args := [d1, d2, d3] }
  | _ => none }
def fnExactDayOfHeightRow : OpenClaim := { program := "ytndhihjgdjnkaaa", sum := "e51bee7e8f1044eb29f18f423829c864132d02706f5753ef96946969aecab3af", func := "loop.example/g01335/laws.FnExactDayOfHeight", spec := "fnExactDayOfHeight", apart := false }
def FnExactDayOfHeightSaid : Prop := fnExactDayOfHeightRow.holds Try.pinned (OpenSpec.ofChange fnExactDayOfHeightSpec)

/-- ITS FALSE NEIGHBOUR: 'it returns false'. Refute it at one input. -/
def fnExactDayOfHeightWrong : ChangeSpec := { name := "fnExactDayOfHeight", fn := fun _ => fun
  | [d1, d2, d3] => { results := [.lit (.bool false)], args := [d1, d2, d3] }
  | _ => none }
def FnExactDayOfHeightWrongFalsely : Prop := fnExactDayOfHeightRow.holds Try.pinned (OpenSpec.ofChange fnExactDayOfHeightWrong)

/-- 'laws.FnExactDaysToTop': WHATEVER THE INPUT: true; the input reads as it did. -/
def fnExactDaysToTopSpec : ChangeSpec := { name := "fnExactDaysToTop", fn := fun _ => fun
  | [d1, d2] => { results := [.lit (.bool true)], args := [d1, d2] }
  | _ => none }
def fnExactDaysToTopRow : OpenClaim := { program := "ytndhihjgdjnkaaa", sum := "e51bee7e8f1044eb29f18f423829c864132d02706f5753ef96946969aecab3af", func := "loop.example/g01335/laws.FnExactDaysToTop", spec := "fnExactDaysToTop", apart := false }
def FnExactDaysToTopSaid : Prop := fnExactDaysToTopRow.holds Try.pinned (OpenSpec.ofChange fnExactDaysToTopSpec)

/-- ITS FALSE NEIGHBOUR: 'it returns false'. Refute it at one input. -/
def fnExactDaysToTopWrong : ChangeSpec := { name := "fnExactDaysToTop", fn := fun _ => fun
  | [d1, d2] => { results := [.lit (.bool false)], args := [d1, d2] }
  | _ => none }
def FnExactDaysToTopWrongFalsely : Prop := fnExactDaysToTopRow.holds Try.pinned (OpenSpec.ofChange fnExactDaysToTopWrong)

/-- 'laws.FnExactMorningHeight': WHATEVER THE INPUT: true; the input reads as it did. -/
def fnExactMorningHeightSpec : ChangeSpec := { name := "fnExactMorningHeight", fn := fun _ => fun
  | [d1, d2, d3] => { results := [.lit (.bool true)], args := [d1, d2, d3] }
  | _ => none }
def fnExactMorningHeightRow : OpenClaim := { program := "ytndhihjgdjnkaaa", sum := "e51bee7e8f1044eb29f18f423829c864132d02706f5753ef96946969aecab3af", func := "loop.example/g01335/laws.FnExactMorningHeight", spec := "fnExactMorningHeight", apart := false }
def FnExactMorningHeightSaid : Prop := fnExactMorningHeightRow.holds Try.pinned (OpenSpec.ofChange fnExactMorningHeightSpec)

/-- ITS FALSE NEIGHBOUR: 'it returns false'. Refute it at one input. -/
def fnExactMorningHeightWrong : ChangeSpec := { name := "fnExactMorningHeight", fn := fun _ => fun
  | [d1, d2, d3] => { results := [.lit (.bool false)], args := [d1, d2, d3] }
  | _ => none }
def FnExactMorningHeightWrongFalsely : Prop := fnExactMorningHeightRow.holds Try.pinned (OpenSpec.ofChange fnExactMorningHeightWrong)

/- THE SECOND FORM. 'bulk': how many values and letters a reading holds, each counted each time it is reached (what is shared counts as often as it is met; a slice's spare places count too). A statement '..UptoSaid' is the law's where the arguments, and the package variables that the reading takes, are together of bulk at most 1048576: NARROWER than '..Said'. Prove '..Said' where nothing that the law and all that it calls make is longer than what came in: it says more and counts as full. Else prove '..UptoSaid'. A law counts once. -/
mutual
def uptoBulk {H : Type} : DataW H → Nat
  | .lit (.string bytes) => bytes.length + 1
  | .lit _ => 1
  | .nil => 1
  | .ptr d => uptoBulk d + 1
  | .slice elems spare => uptoBulkAll elems + uptoBulkAll spare + 1
  | .agg parts => uptoBulkAll parts + 1
  | .iface _ d => uptoBulk d + 1
  | .map entries => uptoBulkEntries entries + 1
  | .held _ => 1
def uptoBulkAll {H : Type} : List (DataW H) → Nat
  | [] => 0
  | d :: r => uptoBulk d + uptoBulkAll r
def uptoBulkEntries {H : Type} : List (Lit × DataW H) → Nat
  | [] => 0
  | x :: r => uptoBulkEntry x + uptoBulkEntries r
def uptoBulkEntry {H : Type} : Lit × DataW H → Nat
  | (.string bytes, d) => bytes.length + uptoBulk d + 1
  | (_, d) => uptoBulk d + 1
 end
def uptoSmall : (H : Type) → List (DataW H) → Bool := fun _ ds => decide (uptoBulkAll ds ≤ 1048576)
def OpenSpec.upto (s : _root_.Go.ChangeSpec) : _root_.Go.OpenSpec := { _root_.Go.OpenSpec.ofChange s with cond := some uptoSmall }

/-- 'laws.FnExactConstants', WHERE WHAT IT READS IS OF BULK AT MOST 1048576: true; the input reads as it did. -/
def fnExactConstantsUptoRow : OpenClaim := { program := "ytndhihjgdjnkaaa", sum := "e51bee7e8f1044eb29f18f423829c864132d02706f5753ef96946969aecab3af", func := "loop.example/g01335/laws.FnExactConstants", spec := "fnExactConstants", apart := false, narrowed := true }
def FnExactConstantsUptoSaid : Prop := fnExactConstantsUptoRow.holds Try.pinned (OpenSpec.upto fnExactConstantsSpec)

/-- 'laws.FnExactIsSnail', WHERE WHAT IT READS IS OF BULK AT MOST 1048576: true; the input reads as it did. -/
def fnExactIsSnailUptoRow : OpenClaim := { program := "ytndhihjgdjnkaaa", sum := "e51bee7e8f1044eb29f18f423829c864132d02706f5753ef96946969aecab3af", func := "loop.example/g01335/laws.FnExactIsSnail", spec := "fnExactIsSnail", apart := false, narrowed := true }
def FnExactIsSnailUptoSaid : Prop := fnExactIsSnailUptoRow.holds Try.pinned (OpenSpec.upto fnExactIsSnailSpec)

/-- 'laws.FnExactIsWalker', WHERE WHAT IT READS IS OF BULK AT MOST 1048576: true; the input reads as it did. -/
def fnExactIsWalkerUptoRow : OpenClaim := { program := "ytndhihjgdjnkaaa", sum := "e51bee7e8f1044eb29f18f423829c864132d02706f5753ef96946969aecab3af", func := "loop.example/g01335/laws.FnExactIsWalker", spec := "fnExactIsWalker", apart := false, narrowed := true }
def FnExactIsWalkerUptoSaid : Prop := fnExactIsWalkerUptoRow.holds Try.pinned (OpenSpec.upto fnExactIsWalkerSpec)

/-- 'laws.FnExactGreatestWall', WHERE WHAT IT READS IS OF BULK AT MOST 1048576: true; the input reads as it did. -/
def fnExactGreatestWallUptoRow : OpenClaim := { program := "ytndhihjgdjnkaaa", sum := "e51bee7e8f1044eb29f18f423829c864132d02706f5753ef96946969aecab3af", func := "loop.example/g01335/laws.FnExactGreatestWall", spec := "fnExactGreatestWall", apart := false, narrowed := true }
def FnExactGreatestWallUptoSaid : Prop := fnExactGreatestWallUptoRow.holds Try.pinned (OpenSpec.upto fnExactGreatestWallSpec)

/-- 'laws.FnExactCanClimb', WHERE WHAT IT READS IS OF BULK AT MOST 1048576: true; the input reads as it did. -/
def fnExactCanClimbUptoRow : OpenClaim := { program := "ytndhihjgdjnkaaa", sum := "e51bee7e8f1044eb29f18f423829c864132d02706f5753ef96946969aecab3af", func := "loop.example/g01335/laws.FnExactCanClimb", spec := "fnExactCanClimb", apart := false, narrowed := true }
def FnExactCanClimbUptoSaid : Prop := fnExactCanClimbUptoRow.holds Try.pinned (OpenSpec.upto fnExactCanClimbSpec)

/-- 'laws.FnExactMostDown', WHERE WHAT IT READS IS OF BULK AT MOST 1048576: true; the input reads as it did. -/
def fnExactMostDownUptoRow : OpenClaim := { program := "ytndhihjgdjnkaaa", sum := "e51bee7e8f1044eb29f18f423829c864132d02706f5753ef96946969aecab3af", func := "loop.example/g01335/laws.FnExactMostDown", spec := "fnExactMostDown", apart := false, narrowed := true }
def FnExactMostDownUptoSaid : Prop := fnExactMostDownUptoRow.holds Try.pinned (OpenSpec.upto fnExactMostDownSpec)

/-- 'laws.FnExactSlowestUp', WHERE WHAT IT READS IS OF BULK AT MOST 1048576: true; the input reads as it did. -/
def fnExactSlowestUpUptoRow : OpenClaim := { program := "ytndhihjgdjnkaaa", sum := "e51bee7e8f1044eb29f18f423829c864132d02706f5753ef96946969aecab3af", func := "loop.example/g01335/laws.FnExactSlowestUp", spec := "fnExactSlowestUp", apart := false, narrowed := true }
def FnExactSlowestUpUptoSaid : Prop := fnExactSlowestUpUptoRow.holds Try.pinned (OpenSpec.upto fnExactSlowestUpSpec)

/-- 'laws.FnExactEveningHeight', WHERE WHAT IT READS IS OF BULK AT MOST 1048576: true; the input reads as it did. -/
def fnExactEveningHeightUptoRow : OpenClaim := { program := "ytndhihjgdjnkaaa", sum := "e51bee7e8f1044eb29f18f423829c864132d02706f5753ef96946969aecab3af", func := "loop.example/g01335/laws.FnExactEveningHeight", spec := "fnExactEveningHeight", apart := false, narrowed := true }
def FnExactEveningHeightUptoSaid : Prop := fnExactEveningHeightUptoRow.holds Try.pinned (OpenSpec.upto fnExactEveningHeightSpec)

/-- 'laws.FnExactLeadOf', WHERE WHAT IT READS IS OF BULK AT MOST 1048576: true; the input reads as it did. -/
def fnExactLeadOfUptoRow : OpenClaim := { program := "ytndhihjgdjnkaaa", sum := "e51bee7e8f1044eb29f18f423829c864132d02706f5753ef96946969aecab3af", func := "loop.example/g01335/laws.FnExactLeadOf", spec := "fnExactLeadOf", apart := false, narrowed := true }
def FnExactLeadOfUptoSaid : Prop := fnExactLeadOfUptoRow.holds Try.pinned (OpenSpec.upto fnExactLeadOfSpec)

/-- 'laws.FnExactDayOfHeight', WHERE WHAT IT READS IS OF BULK AT MOST 1048576: true; the input reads as it did. -/
def fnExactDayOfHeightUptoRow : OpenClaim := { program := "ytndhihjgdjnkaaa", sum := "e51bee7e8f1044eb29f18f423829c864132d02706f5753ef96946969aecab3af", func := "loop.example/g01335/laws.FnExactDayOfHeight", spec := "fnExactDayOfHeight", apart := false, narrowed := true }
def FnExactDayOfHeightUptoSaid : Prop := fnExactDayOfHeightUptoRow.holds Try.pinned (OpenSpec.upto fnExactDayOfHeightSpec)

/-- 'laws.FnExactDaysToTop', WHERE WHAT IT READS IS OF BULK AT MOST 1048576: true; the input reads as it did. -/
def fnExactDaysToTopUptoRow : OpenClaim := { program := "ytndhihjgdjnkaaa", sum := "e51bee7e8f1044eb29f18f423829c864132d02706f5753ef96946969aecab3af", func := "loop.example/g01335/laws.FnExactDaysToTop", spec := "fnExactDaysToTop", apart := false, narrowed := true }
def FnExactDaysToTopUptoSaid : Prop := fnExactDaysToTopUptoRow.holds Try.pinned (OpenSpec.upto fnExactDaysToTopSpec)

/-- 'laws.FnExactMorningHeight', WHERE WHAT IT READS IS OF BULK AT MOST 1048576: true; the input reads as it did. -/
def fnExactMorningHeightUptoRow : OpenClaim := { program := "ytndhihjgdjnkaaa", sum := "e51bee7e8f1044eb29f18f423829c864132d02706f5753ef96946969aecab3af", func := "loop.example/g01335/laws.FnExactMorningHeight", spec := "fnExactMorningHeight", apart := false, narrowed := true }
def FnExactMorningHeightUptoSaid : Prop := fnExactMorningHeightUptoRow.holds Try.pinned (OpenSpec.upto fnExactMorningHeightSpec)

end Rows
end Go.Proofs.Ytndhihjgdjnkaaa
