/-
  No cell of these rows narrows 'for every input' (looked for: loops, veiled, ifaces, maps, wideKeys, modest, calm, conditions, laid).
  DERIVED. THE GIVEN ROWS OF THIS SEAT. 12 by the template 'for every input the law returns true; each argument reads behind the call as it read before'; 0 by the template 'total and deterministic' (their statements: YtenmmjfnlaondaaTotals.lean).
  GIVEN WITH THE SEED: the statements are not yours to turn. If you find one false, say at which input.
  Laid BY PROGRAM, IN A SANDBOX (cutbox-rows.mjs): the forced cells as the released guide's own fill.sh prints them over the translation dbb1ea03181a5391… (all of the seat's roots in one cut). By AI agents, Wed Nov 11 2026. No macro, syntax, notation, axiom, sorry.
-/
import Derived.Test.YtenmmjfnlaondaaChecked
import GoSem.Claim
import GoSem.ClaimJoined
import GoSem.ClaimMapViews
import Derived.JoinedTies
import Derived.KernelRfl
namespace Go.Proofs.Ytenmmjfnlaondaa
/- THE CELL 'sum', in the pinned program and in every row, IS THE sha256 OF THE DUMP (.gsa) THAT YtenmmjfnlaondaaProg.lean LOADS. Nothing in Lean hashes anything: it is a label: what it is worth is what the hold of that sum in a sandbox is worth. -/
noncomputable def Try.pinned : Pinned := { name := "ytenmmjfnlaondaa", sum := "dbb1ea03181a53918849e09dff7e51867b3e25c665c4ca9358b44754b0bece1b", checked := Try.checked }
namespace Rows
def none {H : Type} : Left H := { results := [], args := [] }

/-- 'laws.FnExactLapsAt': WHATEVER THE INPUT: true; the input reads as it did. -/
def fnExactLapsAtSpec : ChangeSpec := { name := "fnExactLapsAt", fn := fun _ => fun
  | [d1, d2, d3] => { results := [.lit (.bool true)], args := [d1, d2, d3] }
  | _ => none }
def fnExactLapsAtRow : OpenClaim := { program := "ytenmmjfnlaondaa", sum := "dbb1ea03181a53918849e09dff7e51867b3e25c665c4ca9358b44754b0bece1b", func := "loop.example/g01335/laws.FnExactLapsAt", spec := "fnExactLapsAt", unfollowed := true, recurses := true, apart := false }
def FnExactLapsAtSaid : Prop := fnExactLapsAtRow.holds Try.pinned (OpenSpec.ofChange fnExactLapsAtSpec)

/-- ITS FALSE NEIGHBOUR: 'it returns false'. Refute it at one input. -/
def fnExactLapsAtWrong : ChangeSpec := { name := "fnExactLapsAt", fn := fun _ => fun
  | [d1, d2, d3] => { results := [.lit (.bool false)], args := [d1, d2, d3] }
  | _ => none }
def FnExactLapsAtWrongFalsely : Prop := fnExactLapsAtRow.holds Try.pinned (OpenSpec.ofChange fnExactLapsAtWrong)

/-- 'laws.FnExactLeadBetween': WHATEVER THE INPUT: true; the input reads as it did. -/
def fnExactLeadBetweenSpec : ChangeSpec := { name := "fnExactLeadBetween", fn := fun _ => fun
  | [d1, d2, d3, d4] => { results := [.lit (.bool true)], args := [d1, d2, d3, d4] }
  | _ => none }
def fnExactLeadBetweenRow : OpenClaim := { program := "ytenmmjfnlaondaa", sum := "dbb1ea03181a53918849e09dff7e51867b3e25c665c4ca9358b44754b0bece1b", func := "loop.example/g01335/laws.FnExactLeadBetween", spec := "fnExactLeadBetween", unfollowed := true, recurses := true, apart := false }
def FnExactLeadBetweenSaid : Prop := fnExactLeadBetweenRow.holds Try.pinned (OpenSpec.ofChange fnExactLeadBetweenSpec)

/-- ITS FALSE NEIGHBOUR: 'it returns false'. Refute it at one input. -/
def fnExactLeadBetweenWrong : ChangeSpec := { name := "fnExactLeadBetween", fn := fun _ => fun
  | [d1, d2, d3, d4] => { results := [.lit (.bool false)], args := [d1, d2, d3, d4] }
  | _ => none }
def FnExactLeadBetweenWrongFalsely : Prop := fnExactLeadBetweenRow.holds Try.pinned (OpenSpec.ofChange fnExactLeadBetweenWrong)

/-- 'laws.FnExactPlaceOnTrack': WHATEVER THE INPUT: true; the input reads as it did. -/
def fnExactPlaceOnTrackSpec : ChangeSpec := { name := "fnExactPlaceOnTrack", fn := fun _ => fun
  | [d1, d2, d3] => { results := [.lit (.bool true)], args := [d1, d2, d3] }
  | _ => none }
def fnExactPlaceOnTrackRow : OpenClaim := { program := "ytenmmjfnlaondaa", sum := "dbb1ea03181a53918849e09dff7e51867b3e25c665c4ca9358b44754b0bece1b", func := "loop.example/g01335/laws.FnExactPlaceOnTrack", spec := "fnExactPlaceOnTrack", unfollowed := true, recurses := true, apart := false }
def FnExactPlaceOnTrackSaid : Prop := fnExactPlaceOnTrackRow.holds Try.pinned (OpenSpec.ofChange fnExactPlaceOnTrackSpec)

/-- ITS FALSE NEIGHBOUR: 'it returns false'. Refute it at one input. -/
def fnExactPlaceOnTrackWrong : ChangeSpec := { name := "fnExactPlaceOnTrack", fn := fun _ => fun
  | [d1, d2, d3] => { results := [.lit (.bool false)], args := [d1, d2, d3] }
  | _ => none }
def FnExactPlaceOnTrackWrongFalsely : Prop := fnExactPlaceOnTrackRow.holds Try.pinned (OpenSpec.ofChange fnExactPlaceOnTrackWrong)

/-- 'laws.FnExactHandicapFor': WHATEVER THE INPUT: true; the input reads as it did. -/
def fnExactHandicapForSpec : ChangeSpec := { name := "fnExactHandicapFor", fn := fun _ => fun
  | [d1, d2, d3, d4] => { results := [.lit (.bool true)], args := [d1, d2, d3, d4] }
  | _ => none }
def fnExactHandicapForRow : OpenClaim := { program := "ytenmmjfnlaondaa", sum := "dbb1ea03181a53918849e09dff7e51867b3e25c665c4ca9358b44754b0bece1b", func := "loop.example/g01335/laws.FnExactHandicapFor", spec := "fnExactHandicapFor", unfollowed := true, recurses := true, apart := false }
def FnExactHandicapForSaid : Prop := fnExactHandicapForRow.holds Try.pinned (OpenSpec.ofChange fnExactHandicapForSpec)

/-- ITS FALSE NEIGHBOUR: 'it returns false'. Refute it at one input. -/
def fnExactHandicapForWrong : ChangeSpec := { name := "fnExactHandicapFor", fn := fun _ => fun
  | [d1, d2, d3, d4] => { results := [.lit (.bool false)], args := [d1, d2, d3, d4] }
  | _ => none }
def FnExactHandicapForWrongFalsely : Prop := fnExactHandicapForRow.holds Try.pinned (OpenSpec.ofChange fnExactHandicapForWrong)

/-- 'laws.FnExactFirstMeet': WHATEVER THE INPUT: true; the input reads as it did. -/
def fnExactFirstMeetSpec : ChangeSpec := { name := "fnExactFirstMeet", fn := fun _ => fun
  | [d1, d2, d3] => { results := [.lit (.bool true)], args := [d1, d2, d3] }
  | _ => none }
def fnExactFirstMeetRow : OpenClaim := { program := "ytenmmjfnlaondaa", sum := "dbb1ea03181a53918849e09dff7e51867b3e25c665c4ca9358b44754b0bece1b", func := "loop.example/g01335/laws.FnExactFirstMeet", spec := "fnExactFirstMeet", unfollowed := true, recurses := true, apart := false }
def FnExactFirstMeetSaid : Prop := fnExactFirstMeetRow.holds Try.pinned (OpenSpec.ofChange fnExactFirstMeetSpec)

/-- ITS FALSE NEIGHBOUR: 'it returns false'. Refute it at one input. -/
def fnExactFirstMeetWrong : ChangeSpec := { name := "fnExactFirstMeet", fn := fun _ => fun
  | [d1, d2, d3] => { results := [.lit (.bool false)], args := [d1, d2, d3] }
  | _ => none }
def FnExactFirstMeetWrongFalsely : Prop := fnExactFirstMeetRow.holds Try.pinned (OpenSpec.ofChange fnExactFirstMeetWrong)

/-- 'laws.FnExactTimeOfLaps': WHATEVER THE INPUT: true; the input reads as it did. -/
def fnExactTimeOfLapsSpec : ChangeSpec := { name := "fnExactTimeOfLaps", fn := fun _ => fun
  | [d1, d2, d3] => { results := [.lit (.bool true)], args := [d1, d2, d3] }
  | _ => none }
def fnExactTimeOfLapsRow : OpenClaim := { program := "ytenmmjfnlaondaa", sum := "dbb1ea03181a53918849e09dff7e51867b3e25c665c4ca9358b44754b0bece1b", func := "loop.example/g01335/laws.FnExactTimeOfLaps", spec := "fnExactTimeOfLaps", unfollowed := true, recurses := true, apart := false }
def FnExactTimeOfLapsSaid : Prop := fnExactTimeOfLapsRow.holds Try.pinned (OpenSpec.ofChange fnExactTimeOfLapsSpec)

/-- ITS FALSE NEIGHBOUR: 'it returns false'. Refute it at one input. -/
def fnExactTimeOfLapsWrong : ChangeSpec := { name := "fnExactTimeOfLaps", fn := fun _ => fun
  | [d1, d2, d3] => { results := [.lit (.bool false)], args := [d1, d2, d3] }
  | _ => none }
def FnExactTimeOfLapsWrongFalsely : Prop := fnExactTimeOfLapsRow.holds Try.pinned (OpenSpec.ofChange fnExactTimeOfLapsWrong)

/-- 'laws.FnExactCountRingMeetings': WHATEVER THE INPUT: true; the input reads as it did. -/
def fnExactCountRingMeetingsSpec : ChangeSpec := { name := "fnExactCountRingMeetings", fn := fun _ => fun
  | [d1, d2, d3, d4] => { results := [.lit (.bool true)], args := [d1, d2, d3, d4] }
  | _ => none }
def fnExactCountRingMeetingsRow : OpenClaim := { program := "ytenmmjfnlaondaa", sum := "dbb1ea03181a53918849e09dff7e51867b3e25c665c4ca9358b44754b0bece1b", func := "loop.example/g01335/laws.FnExactCountRingMeetings", spec := "fnExactCountRingMeetings", apart := false }
def FnExactCountRingMeetingsSaid : Prop := fnExactCountRingMeetingsRow.holds Try.pinned (OpenSpec.ofChange fnExactCountRingMeetingsSpec)

/-- ITS FALSE NEIGHBOUR: 'it returns false'. Refute it at one input. -/
def fnExactCountRingMeetingsWrong : ChangeSpec := { name := "fnExactCountRingMeetings", fn := fun _ => fun
  | [d1, d2, d3, d4] => { results := [.lit (.bool false)], args := [d1, d2, d3, d4] }
  | _ => none }
def FnExactCountRingMeetingsWrongFalsely : Prop := fnExactCountRingMeetingsRow.holds Try.pinned (OpenSpec.ofChange fnExactCountRingMeetingsWrong)

/-- 'laws.FnExactGapAt': WHATEVER THE INPUT: true; the input reads as it did. -/
def fnExactGapAtSpec : ChangeSpec := { name := "fnExactGapAt", fn := fun _ => fun
  | [d1, d2, d3, d4] => { results := [.lit (.bool true)], args := [d1, d2, d3, d4] }
  | _ => none }
def fnExactGapAtRow : OpenClaim := { program := "ytenmmjfnlaondaa", sum := "dbb1ea03181a53918849e09dff7e51867b3e25c665c4ca9358b44754b0bece1b", func := "loop.example/g01335/laws.FnExactGapAt", spec := "fnExactGapAt", apart := false }
def FnExactGapAtSaid : Prop := fnExactGapAtRow.holds Try.pinned (OpenSpec.ofChange fnExactGapAtSpec)

/-- ITS FALSE NEIGHBOUR: 'it returns false'. Refute it at one input. -/
def fnExactGapAtWrong : ChangeSpec := { name := "fnExactGapAt", fn := fun _ => fun
  | [d1, d2, d3, d4] => { results := [.lit (.bool false)], args := [d1, d2, d3, d4] }
  | _ => none }
def FnExactGapAtWrongFalsely : Prop := fnExactGapAtRow.holds Try.pinned (OpenSpec.ofChange fnExactGapAtWrong)

/-- 'laws.FnExactWalkerPlace': WHATEVER THE INPUT: true; the input reads as it did. -/
def fnExactWalkerPlaceSpec : ChangeSpec := { name := "fnExactWalkerPlace", fn := fun _ => fun
  | [d1, d2, d3] => { results := [.lit (.bool true)], args := [d1, d2, d3] }
  | _ => none }
def fnExactWalkerPlaceRow : OpenClaim := { program := "ytenmmjfnlaondaa", sum := "dbb1ea03181a53918849e09dff7e51867b3e25c665c4ca9358b44754b0bece1b", func := "loop.example/g01335/laws.FnExactWalkerPlace", spec := "fnExactWalkerPlace", apart := false }
def FnExactWalkerPlaceSaid : Prop := fnExactWalkerPlaceRow.holds Try.pinned (OpenSpec.ofChange fnExactWalkerPlaceSpec)

/-- ITS FALSE NEIGHBOUR: 'it returns false'. Refute it at one input. -/
def fnExactWalkerPlaceWrong : ChangeSpec := { name := "fnExactWalkerPlace", fn := fun _ => fun
  | [d1, d2, d3] => { results := [.lit (.bool false)], args := [d1, d2, d3] }
  | _ => none }
def FnExactWalkerPlaceWrongFalsely : Prop := fnExactWalkerPlaceRow.holds Try.pinned (OpenSpec.ofChange fnExactWalkerPlaceWrong)

/-- 'laws.FnExactRingGap': WHATEVER THE INPUT: true; the input reads as it did. -/
def fnExactRingGapSpec : ChangeSpec := { name := "fnExactRingGap", fn := fun _ => fun
  | [d1, d2, d3] => { results := [.lit (.bool true)], args := [d1, d2, d3] }
  | _ => none }
def fnExactRingGapRow : OpenClaim := { program := "ytenmmjfnlaondaa", sum := "dbb1ea03181a53918849e09dff7e51867b3e25c665c4ca9358b44754b0bece1b", func := "loop.example/g01335/laws.FnExactRingGap", spec := "fnExactRingGap", apart := false }
def FnExactRingGapSaid : Prop := fnExactRingGapRow.holds Try.pinned (OpenSpec.ofChange fnExactRingGapSpec)

/-- ITS FALSE NEIGHBOUR: 'it returns false'. Refute it at one input. -/
def fnExactRingGapWrong : ChangeSpec := { name := "fnExactRingGap", fn := fun _ => fun
  | [d1, d2, d3] => { results := [.lit (.bool false)], args := [d1, d2, d3] }
  | _ => none }
def FnExactRingGapWrongFalsely : Prop := fnExactRingGapRow.holds Try.pinned (OpenSpec.ofChange fnExactRingGapWrong)

/-- 'laws.FnExactMeetingTime': WHATEVER THE INPUT: true; the input reads as it did. -/
def fnExactMeetingTimeSpec : ChangeSpec := { name := "fnExactMeetingTime", fn := fun _ => fun
  | [d1, d2] => { results := [.lit (.bool true)], args := [d1, d2] }
  | _ => none }
def fnExactMeetingTimeRow : OpenClaim := { program := "ytenmmjfnlaondaa", sum := "dbb1ea03181a53918849e09dff7e51867b3e25c665c4ca9358b44754b0bece1b", func := "loop.example/g01335/laws.FnExactMeetingTime", spec := "fnExactMeetingTime", apart := false }
def FnExactMeetingTimeSaid : Prop := fnExactMeetingTimeRow.holds Try.pinned (OpenSpec.ofChange fnExactMeetingTimeSpec)

/-- ITS FALSE NEIGHBOUR: 'it returns false'. Refute it at one input. -/
def fnExactMeetingTimeWrong : ChangeSpec := { name := "fnExactMeetingTime", fn := fun _ => fun
  | [d1, d2] => { results := [.lit (.bool false)], args := [d1, d2] }
  | _ => none }
def FnExactMeetingTimeWrongFalsely : Prop := fnExactMeetingTimeRow.holds Try.pinned (OpenSpec.ofChange fnExactMeetingTimeWrong)

/-- 'laws.FnExactMeetingPlace': WHATEVER THE INPUT: true; the input reads as it did. -/
def fnExactMeetingPlaceSpec : ChangeSpec := { name := "fnExactMeetingPlace", fn := fun _ => fun
  | [d1, d2] => { results := [.lit (.bool true)], args := [d1, d2] }
  | _ => none }
def fnExactMeetingPlaceRow : OpenClaim := { program := "ytenmmjfnlaondaa", sum := "dbb1ea03181a53918849e09dff7e51867b3e25c665c4ca9358b44754b0bece1b", func := "loop.example/g01335/laws.FnExactMeetingPlace", spec := "fnExactMeetingPlace", apart := false }
def FnExactMeetingPlaceSaid : Prop := fnExactMeetingPlaceRow.holds Try.pinned (OpenSpec.ofChange fnExactMeetingPlaceSpec)

/-- ITS FALSE NEIGHBOUR: 'it returns false'. Refute it at one input. -/
def fnExactMeetingPlaceWrong : ChangeSpec := { name := "fnExactMeetingPlace", fn := fun _ => fun
  | [d1, d2] => { results := [.lit (.bool false)], args := [d1, d2] }
  | _ => none }
def FnExactMeetingPlaceWrongFalsely : Prop := fnExactMeetingPlaceRow.holds Try.pinned (OpenSpec.ofChange fnExactMeetingPlaceWrong)

/- THE SECOND FORM. 'bulk': how many values and letters a reading holds, each counted each time it is reached (what is shared counts as often as it is met; a slice's spare places count too). A statement '..UptoSaid' is the law's where the arguments, and the package variables that the reading takes, are together of bulk at most 1048576: NARROWER than '..Said'. Prove '..Said' where nothing that the law and all that it calls make is longer than what came in: it says more and counts as full. Else prove '..UptoSaid'. A law counts once. -/
mutual
def uptoBulk {H : Type} : DataW H → Nat
  | .lit (.string bytes) => bytes.length + 1
  | .lit _ => 1
  | .nil => 1
  | .ptr d => uptoBulk d + 1
  | .slice elems spare => uptoBulkAll elems + uptoBulkAll spare + 1
  | .agg parts => uptoBulkAll parts + 1
  | .iface _ d => uptoBulk d + 1
  | .map entries => uptoBulkEntries entries + 1
  | .held _ => 1
def uptoBulkAll {H : Type} : List (DataW H) → Nat
  | [] => 0
  | d :: r => uptoBulk d + uptoBulkAll r
def uptoBulkEntries {H : Type} : List (Lit × DataW H) → Nat
  | [] => 0
  | x :: r => uptoBulkEntry x + uptoBulkEntries r
def uptoBulkEntry {H : Type} : Lit × DataW H → Nat
  | (.string bytes, d) => bytes.length + uptoBulk d + 1
  | (_, d) => uptoBulk d + 1
 end
def uptoSmall : (H : Type) → List (DataW H) → Bool := fun _ ds => decide (uptoBulkAll ds ≤ 1048576)
def OpenSpec.upto (s : _root_.Go.ChangeSpec) : _root_.Go.OpenSpec := { _root_.Go.OpenSpec.ofChange s with cond := some uptoSmall }

/-- 'laws.FnExactLapsAt', WHERE WHAT IT READS IS OF BULK AT MOST 1048576: true; the input reads as it did. -/
def fnExactLapsAtUptoRow : OpenClaim := { program := "ytenmmjfnlaondaa", sum := "dbb1ea03181a53918849e09dff7e51867b3e25c665c4ca9358b44754b0bece1b", func := "loop.example/g01335/laws.FnExactLapsAt", spec := "fnExactLapsAt", unfollowed := true, recurses := true, apart := false, narrowed := true }
def FnExactLapsAtUptoSaid : Prop := fnExactLapsAtUptoRow.holds Try.pinned (OpenSpec.upto fnExactLapsAtSpec)

/-- 'laws.FnExactLeadBetween', WHERE WHAT IT READS IS OF BULK AT MOST 1048576: true; the input reads as it did. -/
def fnExactLeadBetweenUptoRow : OpenClaim := { program := "ytenmmjfnlaondaa", sum := "dbb1ea03181a53918849e09dff7e51867b3e25c665c4ca9358b44754b0bece1b", func := "loop.example/g01335/laws.FnExactLeadBetween", spec := "fnExactLeadBetween", unfollowed := true, recurses := true, apart := false, narrowed := true }
def FnExactLeadBetweenUptoSaid : Prop := fnExactLeadBetweenUptoRow.holds Try.pinned (OpenSpec.upto fnExactLeadBetweenSpec)

/-- 'laws.FnExactPlaceOnTrack', WHERE WHAT IT READS IS OF BULK AT MOST 1048576: true; the input reads as it did. -/
def fnExactPlaceOnTrackUptoRow : OpenClaim := { program := "ytenmmjfnlaondaa", sum := "dbb1ea03181a53918849e09dff7e51867b3e25c665c4ca9358b44754b0bece1b", func := "loop.example/g01335/laws.FnExactPlaceOnTrack", spec := "fnExactPlaceOnTrack", unfollowed := true, recurses := true, apart := false, narrowed := true }
def FnExactPlaceOnTrackUptoSaid : Prop := fnExactPlaceOnTrackUptoRow.holds Try.pinned (OpenSpec.upto fnExactPlaceOnTrackSpec)

/-- 'laws.FnExactHandicapFor', WHERE WHAT IT READS IS OF BULK AT MOST 1048576: true; the input reads as it did. -/
def fnExactHandicapForUptoRow : OpenClaim := { program := "ytenmmjfnlaondaa", sum := "dbb1ea03181a53918849e09dff7e51867b3e25c665c4ca9358b44754b0bece1b", func := "loop.example/g01335/laws.FnExactHandicapFor", spec := "fnExactHandicapFor", unfollowed := true, recurses := true, apart := false, narrowed := true }
def FnExactHandicapForUptoSaid : Prop := fnExactHandicapForUptoRow.holds Try.pinned (OpenSpec.upto fnExactHandicapForSpec)

/-- 'laws.FnExactFirstMeet', WHERE WHAT IT READS IS OF BULK AT MOST 1048576: true; the input reads as it did. -/
def fnExactFirstMeetUptoRow : OpenClaim := { program := "ytenmmjfnlaondaa", sum := "dbb1ea03181a53918849e09dff7e51867b3e25c665c4ca9358b44754b0bece1b", func := "loop.example/g01335/laws.FnExactFirstMeet", spec := "fnExactFirstMeet", unfollowed := true, recurses := true, apart := false, narrowed := true }
def FnExactFirstMeetUptoSaid : Prop := fnExactFirstMeetUptoRow.holds Try.pinned (OpenSpec.upto fnExactFirstMeetSpec)

/-- 'laws.FnExactTimeOfLaps', WHERE WHAT IT READS IS OF BULK AT MOST 1048576: true; the input reads as it did. -/
def fnExactTimeOfLapsUptoRow : OpenClaim := { program := "ytenmmjfnlaondaa", sum := "dbb1ea03181a53918849e09dff7e51867b3e25c665c4ca9358b44754b0bece1b", func := "loop.example/g01335/laws.FnExactTimeOfLaps", spec := "fnExactTimeOfLaps", unfollowed := true, recurses := true, apart := false, narrowed := true }
def FnExactTimeOfLapsUptoSaid : Prop := fnExactTimeOfLapsUptoRow.holds Try.pinned (OpenSpec.upto fnExactTimeOfLapsSpec)

/-- 'laws.FnExactCountRingMeetings', WHERE WHAT IT READS IS OF BULK AT MOST 1048576: true; the input reads as it did. -/
def fnExactCountRingMeetingsUptoRow : OpenClaim := { program := "ytenmmjfnlaondaa", sum := "dbb1ea03181a53918849e09dff7e51867b3e25c665c4ca9358b44754b0bece1b", func := "loop.example/g01335/laws.FnExactCountRingMeetings", spec := "fnExactCountRingMeetings", apart := false, narrowed := true }
def FnExactCountRingMeetingsUptoSaid : Prop := fnExactCountRingMeetingsUptoRow.holds Try.pinned (OpenSpec.upto fnExactCountRingMeetingsSpec)

/-- 'laws.FnExactGapAt', WHERE WHAT IT READS IS OF BULK AT MOST 1048576: true; the input reads as it did. -/
def fnExactGapAtUptoRow : OpenClaim := { program := "ytenmmjfnlaondaa", sum := "dbb1ea03181a53918849e09dff7e51867b3e25c665c4ca9358b44754b0bece1b", func := "loop.example/g01335/laws.FnExactGapAt", spec := "fnExactGapAt", apart := false, narrowed := true }
def FnExactGapAtUptoSaid : Prop := fnExactGapAtUptoRow.holds Try.pinned (OpenSpec.upto fnExactGapAtSpec)

/-- 'laws.FnExactWalkerPlace', WHERE WHAT IT READS IS OF BULK AT MOST 1048576: true; the input reads as it did. -/
def fnExactWalkerPlaceUptoRow : OpenClaim := { program := "ytenmmjfnlaondaa", sum := "dbb1ea03181a53918849e09dff7e51867b3e25c665c4ca9358b44754b0bece1b", func := "loop.example/g01335/laws.FnExactWalkerPlace", spec := "fnExactWalkerPlace", apart := false, narrowed := true }
def FnExactWalkerPlaceUptoSaid : Prop := fnExactWalkerPlaceUptoRow.holds Try.pinned (OpenSpec.upto fnExactWalkerPlaceSpec)

/-- 'laws.FnExactRingGap', WHERE WHAT IT READS IS OF BULK AT MOST 1048576: true; the input reads as it did. -/
def fnExactRingGapUptoRow : OpenClaim := { program := "ytenmmjfnlaondaa", sum := "dbb1ea03181a53918849e09dff7e51867b3e25c665c4ca9358b44754b0bece1b", func := "loop.example/g01335/laws.FnExactRingGap", spec := "fnExactRingGap", apart := false, narrowed := true }
def FnExactRingGapUptoSaid : Prop := fnExactRingGapUptoRow.holds Try.pinned (OpenSpec.upto fnExactRingGapSpec)

/-- 'laws.FnExactMeetingTime', WHERE WHAT IT READS IS OF BULK AT MOST 1048576: true; the input reads as it did. -/
def fnExactMeetingTimeUptoRow : OpenClaim := { program := "ytenmmjfnlaondaa", sum := "dbb1ea03181a53918849e09dff7e51867b3e25c665c4ca9358b44754b0bece1b", func := "loop.example/g01335/laws.FnExactMeetingTime", spec := "fnExactMeetingTime", apart := false, narrowed := true }
def FnExactMeetingTimeUptoSaid : Prop := fnExactMeetingTimeUptoRow.holds Try.pinned (OpenSpec.upto fnExactMeetingTimeSpec)

/-- 'laws.FnExactMeetingPlace', WHERE WHAT IT READS IS OF BULK AT MOST 1048576: true; the input reads as it did. -/
def fnExactMeetingPlaceUptoRow : OpenClaim := { program := "ytenmmjfnlaondaa", sum := "dbb1ea03181a53918849e09dff7e51867b3e25c665c4ca9358b44754b0bece1b", func := "loop.example/g01335/laws.FnExactMeetingPlace", spec := "fnExactMeetingPlace", apart := false, narrowed := true }
def FnExactMeetingPlaceUptoSaid : Prop := fnExactMeetingPlaceUptoRow.holds Try.pinned (OpenSpec.upto fnExactMeetingPlaceSpec)

end Rows
end Go.Proofs.Ytenmmjfnlaondaa
