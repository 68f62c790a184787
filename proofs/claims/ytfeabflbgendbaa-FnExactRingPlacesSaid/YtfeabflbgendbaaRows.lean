/-
  No cell of these rows narrows 'for every input' (looked for: loops, veiled, ifaces, maps, wideKeys, modest, calm, conditions, laid).
  DERIVED. THE GIVEN ROWS OF THIS SEAT. 9 by the template 'for every input the law returns true; each argument reads behind the call as it read before'; 0 by the template 'total and deterministic' (their statements: YtfeabflbgendbaaTotals.lean).
  GIVEN WITH THE SEED: the statements are not yours to turn. If you find one false, say at which input.
  Laid BY PROGRAM, IN A SANDBOX (cutbox-rows.mjs): the forced cells as the released guide's own fill.sh prints them over the translation 148e3d4fd64c2348… (all of the seat's roots in one cut). By AI agents, Wed Nov 11 2026. No macro, syntax, notation, axiom, sorry.
-/
import Derived.Test.YtfeabflbgendbaaChecked
import GoSem.Claim
import GoSem.ClaimJoined
import GoSem.ClaimMapViews
import Derived.JoinedTies
import Derived.KernelRfl
namespace Go.Proofs.Ytfeabflbgendbaa
/- THE CELL 'sum', in the pinned program and in every row, IS THE sha256 OF THE DUMP (.gsa) THAT YtfeabflbgendbaaProg.lean LOADS. Nothing in Lean hashes anything: it is a label: what it is worth is what the hold of that sum in a sandbox is worth. -/
noncomputable def Try.pinned : Pinned := { name := "ytfeabflbgendbaa", sum := "148e3d4fd64c23487895a141e6aef48d813b52d405761b2e556e82b1c1f75281", checked := Try.checked }
namespace Rows
def none {H : Type} : Left H := { results := [], args := [] }

/-- 'laws.FnExactAreWalkers': WHATEVER THE INPUT: true; the input reads as it did. -/
def fnExactAreWalkersSpec : ChangeSpec := { name := "fnExactAreWalkers", fn := fun _ => fun
  | [d] => { results := [.lit (.bool true)], args := [d] }
  | _ => none }
def fnExactAreWalkersRow : OpenClaim := { program := "ytfeabflbgendbaa", sum := "148e3d4fd64c23487895a141e6aef48d813b52d405761b2e556e82b1c1f75281", func := "loop.example/g01335/laws.FnExactAreWalkers", spec := "fnExactAreWalkers", unfollowed := true, recurses := true, apart := false }
def FnExactAreWalkersSaid : Prop := fnExactAreWalkersRow.holds Try.pinned (OpenSpec.ofChange fnExactAreWalkersSpec)

/-- ITS FALSE NEIGHBOUR: 'it returns false'. Refute it at one input. -/
def fnExactAreWalkersWrong : ChangeSpec := { name := "fnExactAreWalkers", fn := fun _ => fun
  | [d] => { results := [.lit (.bool false)], args := [d] }
  | _ => none }
def FnExactAreWalkersWrongFalsely : Prop := fnExactAreWalkersRow.holds Try.pinned (OpenSpec.ofChange fnExactAreWalkersWrong)

/-- 'laws.FnExactRingTime': WHATEVER THE INPUT: true; the input reads as it did. -/
def fnExactRingTimeSpec : ChangeSpec := { name := "fnExactRingTime", fn := fun _ => fun
  | [d1, d2, d3] => { results := [.lit (.bool true)], args := [d1, d2, d3] }
  | _ => none }
def fnExactRingTimeRow : OpenClaim := { program := "ytfeabflbgendbaa", sum := "148e3d4fd64c23487895a141e6aef48d813b52d405761b2e556e82b1c1f75281", func := "loop.example/g01335/laws.FnExactRingTime", spec := "fnExactRingTime", apart := false }
def FnExactRingTimeSaid : Prop := fnExactRingTimeRow.holds Try.pinned (OpenSpec.ofChange fnExactRingTimeSpec)

/-- ITS FALSE NEIGHBOUR: 'it returns false'. Refute it at one input. -/
def fnExactRingTimeWrong : ChangeSpec := { name := "fnExactRingTime", fn := fun _ => fun
  | [d1, d2, d3] => { results := [.lit (.bool false)], args := [d1, d2, d3] }
  | _ => none }
def FnExactRingTimeWrongFalsely : Prop := fnExactRingTimeRow.holds Try.pinned (OpenSpec.ofChange fnExactRingTimeWrong)

/-- 'laws.FnExactAllAtStart': WHATEVER THE INPUT: true; the input reads as it did. -/
def fnExactAllAtStartSpec : ChangeSpec := { name := "fnExactAllAtStart", fn := fun _ => fun
  | [d1, d2] => { results := [.lit (.bool true)], args := [d1, d2] }
  | _ => none }
def fnExactAllAtStartRow : OpenClaim := { program := "ytfeabflbgendbaa", sum := "148e3d4fd64c23487895a141e6aef48d813b52d405761b2e556e82b1c1f75281", func := "loop.example/g01335/laws.FnExactAllAtStart", spec := "fnExactAllAtStart", unfollowed := true, recurses := true, apart := false }
def FnExactAllAtStartSaid : Prop := fnExactAllAtStartRow.holds Try.pinned (OpenSpec.ofChange fnExactAllAtStartSpec)

/-- ITS FALSE NEIGHBOUR: 'it returns false'. Refute it at one input. -/
def fnExactAllAtStartWrong : ChangeSpec := { name := "fnExactAllAtStart", fn := fun _ => fun
  | [d1, d2] => { results := [.lit (.bool false)], args := [d1, d2] }
  | _ => none }
def FnExactAllAtStartWrongFalsely : Prop := fnExactAllAtStartRow.holds Try.pinned (OpenSpec.ofChange fnExactAllAtStartWrong)

/-- 'laws.FnExactLeadersOf': WHATEVER THE INPUT: true; the input reads as it did. -/
def fnExactLeadersOfSpec : ChangeSpec := { name := "fnExactLeadersOf", fn := fun _ => fun
  | [d] => { results := [.lit (.bool true)], args := [d] }
  | _ => none }
def fnExactLeadersOfRow : OpenClaim := { program := "ytfeabflbgendbaa", sum := "148e3d4fd64c23487895a141e6aef48d813b52d405761b2e556e82b1c1f75281", func := "loop.example/g01335/laws.FnExactLeadersOf", spec := "fnExactLeadersOf", unfollowed := true, recurses := true, apart := false }
def FnExactLeadersOfSaid : Prop := fnExactLeadersOfRow.holds Try.pinned (OpenSpec.ofChange fnExactLeadersOfSpec)

/-- ITS FALSE NEIGHBOUR: 'it returns false'. Refute it at one input. -/
def fnExactLeadersOfWrong : ChangeSpec := { name := "fnExactLeadersOf", fn := fun _ => fun
  | [d] => { results := [.lit (.bool false)], args := [d] }
  | _ => none }
def FnExactLeadersOfWrongFalsely : Prop := fnExactLeadersOfRow.holds Try.pinned (OpenSpec.ofChange fnExactLeadersOfWrong)

/-- 'laws.FnExactWalkersAt': WHATEVER THE INPUT: true; the input reads as it did. -/
def fnExactWalkersAtSpec : ChangeSpec := { name := "fnExactWalkersAt", fn := fun _ => fun
  | [d1, d2, d3] => { results := [.lit (.bool true)], args := [d1, d2, d3] }
  | _ => none }
def fnExactWalkersAtRow : OpenClaim := { program := "ytfeabflbgendbaa", sum := "148e3d4fd64c23487895a141e6aef48d813b52d405761b2e556e82b1c1f75281", func := "loop.example/g01335/laws.FnExactWalkersAt", spec := "fnExactWalkersAt", unfollowed := true, recurses := true, apart := false }
def FnExactWalkersAtSaid : Prop := fnExactWalkersAtRow.holds Try.pinned (OpenSpec.ofChange fnExactWalkersAtSpec)

/-- ITS FALSE NEIGHBOUR: 'it returns false'. Refute it at one input. -/
def fnExactWalkersAtWrong : ChangeSpec := { name := "fnExactWalkersAt", fn := fun _ => fun
  | [d1, d2, d3] => { results := [.lit (.bool false)], args := [d1, d2, d3] }
  | _ => none }
def FnExactWalkersAtWrongFalsely : Prop := fnExactWalkersAtRow.holds Try.pinned (OpenSpec.ofChange fnExactWalkersAtWrong)

/-- 'laws.FnExactLastOrder': WHATEVER THE INPUT: true; the input reads as it did. -/
def fnExactLastOrderSpec : ChangeSpec := { name := "fnExactLastOrder", fn := fun _ => fun
  | [d] => { results := [.lit (.bool true)], args := [d] }
  | _ => none }
def fnExactLastOrderRow : OpenClaim := { program := "ytfeabflbgendbaa", sum := "148e3d4fd64c23487895a141e6aef48d813b52d405761b2e556e82b1c1f75281", func := "loop.example/g01335/laws.FnExactLastOrder", spec := "fnExactLastOrder", unfollowed := true, recurses := true, apart := false }
def FnExactLastOrderSaid : Prop := fnExactLastOrderRow.holds Try.pinned (OpenSpec.ofChange fnExactLastOrderSpec)

/-- ITS FALSE NEIGHBOUR: 'it returns false'. Refute it at one input. -/
def fnExactLastOrderWrong : ChangeSpec := { name := "fnExactLastOrder", fn := fun _ => fun
  | [d] => { results := [.lit (.bool false)], args := [d] }
  | _ => none }
def FnExactLastOrderWrongFalsely : Prop := fnExactLastOrderRow.holds Try.pinned (OpenSpec.ofChange fnExactLastOrderWrong)

/-- 'laws.FnExactCountMeetings': WHATEVER THE INPUT: true; the input reads as it did. -/
def fnExactCountMeetingsSpec : ChangeSpec := { name := "fnExactCountMeetings", fn := fun _ => fun
  | [d] => { results := [.lit (.bool true)], args := [d] }
  | _ => none }
def fnExactCountMeetingsRow : OpenClaim := { program := "ytfeabflbgendbaa", sum := "148e3d4fd64c23487895a141e6aef48d813b52d405761b2e556e82b1c1f75281", func := "loop.example/g01335/laws.FnExactCountMeetings", spec := "fnExactCountMeetings", unfollowed := true, recurses := true, apart := false }
def FnExactCountMeetingsSaid : Prop := fnExactCountMeetingsRow.holds Try.pinned (OpenSpec.ofChange fnExactCountMeetingsSpec)

/-- ITS FALSE NEIGHBOUR: 'it returns false'. Refute it at one input. -/
def fnExactCountMeetingsWrong : ChangeSpec := { name := "fnExactCountMeetings", fn := fun _ => fun
  | [d] => { results := [.lit (.bool false)], args := [d] }
  | _ => none }
def FnExactCountMeetingsWrongFalsely : Prop := fnExactCountMeetingsRow.holds Try.pinned (OpenSpec.ofChange fnExactCountMeetingsWrong)

/-- 'laws.FnExactAllMeetings': WHATEVER THE INPUT: true; the input reads as it did. -/
def fnExactAllMeetingsSpec : ChangeSpec := { name := "fnExactAllMeetings", fn := fun _ => fun
  | [d] => { results := [.lit (.bool true)], args := [d] }
  | _ => none }
def fnExactAllMeetingsRow : OpenClaim := { program := "ytfeabflbgendbaa", sum := "148e3d4fd64c23487895a141e6aef48d813b52d405761b2e556e82b1c1f75281", func := "loop.example/g01335/laws.FnExactAllMeetings", spec := "fnExactAllMeetings", unfollowed := true, recurses := true, apart := false }
def FnExactAllMeetingsSaid : Prop := fnExactAllMeetingsRow.holds Try.pinned (OpenSpec.ofChange fnExactAllMeetingsSpec)

/-- ITS FALSE NEIGHBOUR: 'it returns false'. Refute it at one input. -/
def fnExactAllMeetingsWrong : ChangeSpec := { name := "fnExactAllMeetings", fn := fun _ => fun
  | [d] => { results := [.lit (.bool false)], args := [d] }
  | _ => none }
def FnExactAllMeetingsWrongFalsely : Prop := fnExactAllMeetingsRow.holds Try.pinned (OpenSpec.ofChange fnExactAllMeetingsWrong)

/-- 'laws.FnExactRingPlaces': WHATEVER THE INPUT: true; the input reads as it did. -/
def fnExactRingPlacesSpec : ChangeSpec := { name := "fnExactRingPlaces", fn := fun _ => fun
  | [d1, d2, d3] => { results := [.lit (.bool true)], args := [d1, d2, d3] }
  | _ => none }
def fnExactRingPlacesRow : OpenClaim := { program := "ytfeabflbgendbaa", sum := "148e3d4fd64c23487895a141e6aef48d813b52d405761b2e556e82b1c1f75281", func := "loop.example/g01335/laws.FnExactRingPlaces", spec := "fnExactRingPlaces", recurses := true, apart := false }
def FnExactRingPlacesSaid : Prop := fnExactRingPlacesRow.holds Try.pinned (OpenSpec.ofChange fnExactRingPlacesSpec)

/-- ITS FALSE NEIGHBOUR: 'it returns false'. Refute it at one input. -/
def fnExactRingPlacesWrong : ChangeSpec := { name := "fnExactRingPlaces", fn := fun _ => fun
  | [d1, d2, d3] => { results := [.lit (.bool false)], args := [d1, d2, d3] }
  | _ => none }
def FnExactRingPlacesWrongFalsely : Prop := fnExactRingPlacesRow.holds Try.pinned (OpenSpec.ofChange fnExactRingPlacesWrong)

/- THE SECOND FORM. 'bulk': how many values and letters a reading holds, each counted each time it is reached (what is shared counts as often as it is met; a slice's spare places count too). A statement '..UptoSaid' is the law's where the arguments, and the package variables that the reading takes, are together of bulk at most 1048576: NARROWER than '..Said'. Prove '..Said' where nothing that the law and all that it calls make is longer than what came in: it says more and counts as full. Else prove '..UptoSaid'. A law counts once. -/
mutual
def uptoBulk {H : Type} : DataW H → Nat
  | .lit (.string bytes) => bytes.length + 1
  | .lit _ => 1
  | .nil => 1
  | .ptr d => uptoBulk d + 1
  | .slice elems spare => uptoBulkAll elems + uptoBulkAll spare + 1
  | .agg parts => uptoBulkAll parts + 1
  | .iface _ d => uptoBulk d + 1
  | .map entries => uptoBulkEntries entries + 1
  | .held _ => 1
def uptoBulkAll {H : Type} : List (DataW H) → Nat
  | [] => 0
  | d :: r => uptoBulk d + uptoBulkAll r
def uptoBulkEntries {H : Type} : List (Lit × DataW H) → Nat
  | [] => 0
  | x :: r => uptoBulkEntry x + uptoBulkEntries r
def uptoBulkEntry {H : Type} : Lit × DataW H → Nat
  | (.string bytes, d) => bytes.length + uptoBulk d + 1
  | (_, d) => uptoBulk d + 1
 end
def uptoSmall : (H : Type) → List (DataW H) → Bool := fun _ ds => decide (uptoBulkAll ds ≤ 1048576)
def OpenSpec.upto (s : _root_.Go.ChangeSpec) : _root_.Go.OpenSpec := { _root_.Go.OpenSpec.ofChange s with cond := some uptoSmall }

/-- 'laws.FnExactAreWalkers', WHERE WHAT IT READS IS OF BULK AT MOST 1048576: true; the input reads as it did. -/
def fnExactAreWalkersUptoRow : OpenClaim := { program := "ytfeabflbgendbaa", sum := "148e3d4fd64c23487895a141e6aef48d813b52d405761b2e556e82b1c1f75281", func := "loop.example/g01335/laws.FnExactAreWalkers", spec := "fnExactAreWalkers", unfollowed := true, recurses := true, apart := false, narrowed := true }
def FnExactAreWalkersUptoSaid : Prop := fnExactAreWalkersUptoRow.holds Try.pinned (OpenSpec.upto fnExactAreWalkersSpec)

/-- 'laws.FnExactRingTime', WHERE WHAT IT READS IS OF BULK AT MOST 1048576: true; the input reads as it did. -/
def fnExactRingTimeUptoRow : OpenClaim := { program := "ytfeabflbgendbaa", sum := "148e3d4fd64c23487895a141e6aef48d813b52d405761b2e556e82b1c1f75281", func := "loop.example/g01335/laws.FnExactRingTime", spec := "fnExactRingTime", apart := false, narrowed := true }
def FnExactRingTimeUptoSaid : Prop := fnExactRingTimeUptoRow.holds Try.pinned (OpenSpec.upto fnExactRingTimeSpec)

/-- 'laws.FnExactAllAtStart', WHERE WHAT IT READS IS OF BULK AT MOST 1048576: true; the input reads as it did. -/
def fnExactAllAtStartUptoRow : OpenClaim := { program := "ytfeabflbgendbaa", sum := "148e3d4fd64c23487895a141e6aef48d813b52d405761b2e556e82b1c1f75281", func := "loop.example/g01335/laws.FnExactAllAtStart", spec := "fnExactAllAtStart", unfollowed := true, recurses := true, apart := false, narrowed := true }
def FnExactAllAtStartUptoSaid : Prop := fnExactAllAtStartUptoRow.holds Try.pinned (OpenSpec.upto fnExactAllAtStartSpec)

/-- 'laws.FnExactLeadersOf', WHERE WHAT IT READS IS OF BULK AT MOST 1048576: true; the input reads as it did. -/
def fnExactLeadersOfUptoRow : OpenClaim := { program := "ytfeabflbgendbaa", sum := "148e3d4fd64c23487895a141e6aef48d813b52d405761b2e556e82b1c1f75281", func := "loop.example/g01335/laws.FnExactLeadersOf", spec := "fnExactLeadersOf", unfollowed := true, recurses := true, apart := false, narrowed := true }
def FnExactLeadersOfUptoSaid : Prop := fnExactLeadersOfUptoRow.holds Try.pinned (OpenSpec.upto fnExactLeadersOfSpec)

/-- 'laws.FnExactWalkersAt', WHERE WHAT IT READS IS OF BULK AT MOST 1048576: true; the input reads as it did. -/
def fnExactWalkersAtUptoRow : OpenClaim := { program := "ytfeabflbgendbaa", sum := "148e3d4fd64c23487895a141e6aef48d813b52d405761b2e556e82b1c1f75281", func := "loop.example/g01335/laws.FnExactWalkersAt", spec := "fnExactWalkersAt", unfollowed := true, recurses := true, apart := false, narrowed := true }
def FnExactWalkersAtUptoSaid : Prop := fnExactWalkersAtUptoRow.holds Try.pinned (OpenSpec.upto fnExactWalkersAtSpec)

/-- 'laws.FnExactLastOrder', WHERE WHAT IT READS IS OF BULK AT MOST 1048576: true; the input reads as it did. -/
def fnExactLastOrderUptoRow : OpenClaim := { program := "ytfeabflbgendbaa", sum := "148e3d4fd64c23487895a141e6aef48d813b52d405761b2e556e82b1c1f75281", func := "loop.example/g01335/laws.FnExactLastOrder", spec := "fnExactLastOrder", unfollowed := true, recurses := true, apart := false, narrowed := true }
def FnExactLastOrderUptoSaid : Prop := fnExactLastOrderUptoRow.holds Try.pinned (OpenSpec.upto fnExactLastOrderSpec)

/-- 'laws.FnExactCountMeetings', WHERE WHAT IT READS IS OF BULK AT MOST 1048576: true; the input reads as it did. -/
def fnExactCountMeetingsUptoRow : OpenClaim := { program := "ytfeabflbgendbaa", sum := "148e3d4fd64c23487895a141e6aef48d813b52d405761b2e556e82b1c1f75281", func := "loop.example/g01335/laws.FnExactCountMeetings", spec := "fnExactCountMeetings", unfollowed := true, recurses := true, apart := false, narrowed := true }
def FnExactCountMeetingsUptoSaid : Prop := fnExactCountMeetingsUptoRow.holds Try.pinned (OpenSpec.upto fnExactCountMeetingsSpec)

/-- 'laws.FnExactAllMeetings', WHERE WHAT IT READS IS OF BULK AT MOST 1048576: true; the input reads as it did. -/
def fnExactAllMeetingsUptoRow : OpenClaim := { program := "ytfeabflbgendbaa", sum := "148e3d4fd64c23487895a141e6aef48d813b52d405761b2e556e82b1c1f75281", func := "loop.example/g01335/laws.FnExactAllMeetings", spec := "fnExactAllMeetings", unfollowed := true, recurses := true, apart := false, narrowed := true }
def FnExactAllMeetingsUptoSaid : Prop := fnExactAllMeetingsUptoRow.holds Try.pinned (OpenSpec.upto fnExactAllMeetingsSpec)

/-- 'laws.FnExactRingPlaces', WHERE WHAT IT READS IS OF BULK AT MOST 1048576: true; the input reads as it did. -/
def fnExactRingPlacesUptoRow : OpenClaim := { program := "ytfeabflbgendbaa", sum := "148e3d4fd64c23487895a141e6aef48d813b52d405761b2e556e82b1c1f75281", func := "loop.example/g01335/laws.FnExactRingPlaces", spec := "fnExactRingPlaces", recurses := true, apart := false, narrowed := true }
def FnExactRingPlacesUptoSaid : Prop := fnExactRingPlacesUptoRow.holds Try.pinned (OpenSpec.upto fnExactRingPlacesSpec)

end Rows
end Go.Proofs.Ytfeabflbgendbaa
