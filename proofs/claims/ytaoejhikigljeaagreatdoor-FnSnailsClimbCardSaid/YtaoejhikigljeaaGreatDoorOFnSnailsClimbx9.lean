/- The law FnSnailsClimb: contracts of functions, written by a program (after the kit's print). -/
import Derived.Test.YtaoejhikigljeaaGreatDoorOFnSnailsClimbx0
namespace Go.Proofs.YtaoejhikigljeaaGreatDoor.OFnSnailsClimb
open Go.RowKit Go.Proofs.YtaoejhikigljeaaGreatDoorW.PrintWords Go.Proofs.YtaoejhikigljeaaGreatDoorW.PrintLast Go.Proofs.YtaoejhikigljeaaGreatDoorW.PrintMore
attribute [local go_sem] max2_int min2_int max_two min_two max_three min_three max_four min_four   -- for this text's walks alone
set_option linter.unusedVariables false
set_option linter.unusedSimpArgs false

-- NOT PRINTED: function 3 (laws_FnSnailsClimb)

end Go.Proofs.YtaoejhikigljeaaGreatDoor.OFnSnailsClimb
