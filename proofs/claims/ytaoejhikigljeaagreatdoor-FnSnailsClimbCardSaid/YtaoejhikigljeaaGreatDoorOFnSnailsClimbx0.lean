/- The law FnSnailsClimb: contracts of functions, written by a program (after the kit's print). -/
import Derived.Test.YtaoejhikigljeaaGreatDoorProg
import Derived.Below
import Derived.Deep.Draws
import Derived.Deep.AppendLies
import Derived.Maps.AppendAt
import Derived.OwnWalk
import Derived.Laws.BytesArg
import Derived.Laws.MakeOwn
import Derived.Laws.OwnMore
import Derived.Deep.OwnRows
import Derived.Tactics
import Derived.Lib.ConvBytes
import Derived.Laws.Slices
import Derived.WalkKit
import Derived.KernelRfl
import Derived.RowKit3
import Derived.Deep.LoopGhost
import Derived.Deep.QuietTactic
import Derived.BigQuiet
import Derived.WideLaws
import Derived.Deep.DeepCutAuto
import Derived.Deep.CutBlock
import Derived.Deep.RegionHeld3
import Derived.Laws.Rows
import Derived.Lib.AppendStr
import Derived.ArgAppend
import Derived.Laws.IdiomCopy
import Derived.OrdersHeld
import Derived.Laws.BitsLemmas
import Derived.RowKit
import Derived.Shelf.Abstract
import Derived.Test.YtaoejhikigljeaaGreatDoorWWords
import Derived.Test.YtaoejhikigljeaaGreatDoorWLast
import Derived.Test.YtaoejhikigljeaaGreatDoorWTab
import Derived.Test.YtaoejhikigljeaaGreatDoorWQPut
import Derived.Test.YtaoejhikigljeaaGreatDoorWApart
import Derived.Test.YtaoejhikigljeaaGreatDoorWArr
import Derived.Test.YtaoejhikigljeaaGreatDoorWZeros
import Derived.Test.YtaoejhikigljeaaGreatDoorWFoot
import Derived.Test.YtaoejhikigljeaaGreatDoorWKept
import Derived.Test.YtaoejhikigljeaaGreatDoorWShare
import Derived.Test.YtaoejhikigljeaaGreatDoorWN
import Derived.Test.YtaoejhikigljeaaGreatDoorWEqStruct
import Derived.Test.YtaoejhikigljeaaGreatDoorWRepsOne
import Derived.Test.YtaoejhikigljeaaGreatDoorWNEv
import Derived.Test.YtaoejhikigljeaaGreatDoorWMore
namespace Go.Proofs.YtaoejhikigljeaaGreatDoor.OFnSnailsClimb
open Go.RowKit Go.Proofs.YtaoejhikigljeaaGreatDoorW.PrintWords Go.Proofs.YtaoejhikigljeaaGreatDoorW.PrintLast Go.Proofs.YtaoejhikigljeaaGreatDoorW.PrintMore
attribute [local go_sem] max2_int min2_int max_two min_two max_three min_three max_four min_four   -- for this text's walks alone
set_option linter.unusedVariables false
set_option linter.unusedSimpArgs false



def errW : Option Int → Value
  | none => .nilIface
  | some c => .iface 0 (.int .i64 c)
theorem errW_none : errW none = .nilIface := rfl
theorem errW_some (c : Int) : errW (some c) = .iface 0 (.int .i64 c) := rfl

theorem info9 : (Tryz.prog.info? 9).map (fun i => (i.zero, i.size, i.bytes)) = some (some (.string ⟨#[]⟩), 1, 16) := by kernel_rfl
-- the values' own types

end Go.Proofs.YtaoejhikigljeaaGreatDoor.OFnSnailsClimb
