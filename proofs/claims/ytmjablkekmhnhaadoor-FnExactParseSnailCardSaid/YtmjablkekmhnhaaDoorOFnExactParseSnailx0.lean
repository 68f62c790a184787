/- The law FnExactParseSnail: contracts of functions, written by a program (after the kit's print). -/
import Derived.Test.YtmjablkekmhnhaaDoorProg
import Derived.Below
import Derived.Deep.Draws
import Derived.Deep.AppendLies
import Derived.Maps.AppendAt
import Derived.OwnWalk
import Derived.Laws.BytesArg
import Derived.Laws.MakeOwn
import Derived.Laws.OwnMore
import Derived.Deep.OwnRows
import Derived.Tactics
import Derived.Lib.ConvBytes
import Derived.Laws.Slices
import Derived.WalkKit
import Derived.KernelRfl
import Derived.RowKit3
import Derived.Deep.LoopGhost
import Derived.Deep.QuietTactic
import Derived.BigQuiet
import Derived.WideLaws
import Derived.Deep.DeepCutAuto
import Derived.Deep.CutBlock
import Derived.Deep.RegionHeld3
import Derived.Laws.Rows
import Derived.Lib.AppendStr
import Derived.ArgAppend
import Derived.Laws.IdiomCopy
import Derived.OrdersHeld
import Derived.Laws.BitsLemmas
import Derived.RowKit
import Derived.Shelf.Abstract
import Derived.Test.YtmjablkekmhnhaaDoorWWords
import Derived.Test.YtmjablkekmhnhaaDoorWLast
import Derived.Test.YtmjablkekmhnhaaDoorWTab
import Derived.Test.YtmjablkekmhnhaaDoorWFour
import Derived.Test.YtmjablkekmhnhaaDoorWQPut
import Derived.Test.YtmjablkekmhnhaaDoorWApart
import Derived.Test.YtmjablkekmhnhaaDoorWArr
import Derived.Test.YtmjablkekmhnhaaDoorWZeros
import Derived.Test.YtmjablkekmhnhaaDoorWFoot
import Derived.Test.YtmjablkekmhnhaaDoorWKept
import Derived.Test.YtmjablkekmhnhaaDoorWShare
import Derived.Test.YtmjablkekmhnhaaDoorWN
import Derived.Test.YtmjablkekmhnhaaDoorWFootNe
import Derived.Test.YtmjablkekmhnhaaDoorWAt
import Derived.Test.YtmjablkekmhnhaaDoorWEqStruct
import Derived.Test.YtmjablkekmhnhaaDoorWRepsOne
import Derived.Test.YtmjablkekmhnhaaDoorWInv
import Derived.Test.YtmjablkekmhnhaaDoorWInvWords
import Derived.Test.YtmjablkekmhnhaaDoorWGuard
import Derived.Test.YtmjablkekmhnhaaDoorWNEv
import Derived.Test.YtmjablkekmhnhaaDoorWMore
namespace Go.Proofs.YtmjablkekmhnhaaDoor.OFnExactParseSnail
open Go.RowKit Go.Proofs.YtmjablkekmhnhaaDoorW.PrintWords Go.Proofs.YtmjablkekmhnhaaDoorW.PrintLast Go.Proofs.YtmjablkekmhnhaaDoorW.PrintMore
attribute [local go_sem] max2_int min2_int max_two min_two max_three min_three max_four min_four   -- for this text's walks alone
set_option linter.unusedVariables false
set_option linter.unusedSimpArgs false



def errW : Option Int → Value
  | none => .nilIface
  | some c => .iface 0 (.int .i64 c)
theorem errW_none : errW none = .nilIface := rfl
theorem errW_some (c : Int) : errW (some c) = .iface 0 (.int .i64 c) := rfl

theorem info5 : (Tryd.prog.info? 5).map (fun i => (i.zero, i.size, i.bytes)) = some (some (.int .u8 0), 1, 1) := by kernel_rfl
theorem info9 : (Tryd.prog.info? 9).map (fun i => (i.zero, i.size, i.bytes)) = some (some (.string ⟨#[]⟩), 1, 16) := by kernel_rfl
-- the values' own types

end Go.Proofs.YtmjablkekmhnhaaDoor.OFnExactParseSnail
