/- The law FnSnailsRaceOfAll: contracts of functions, written by a program (after the kit's print). -/
import Derived.Test.YtbbglmoenjdloaaOFnSnailsRaceOfAllx0
import Derived.Test.YtbbglmoenjdloaaOFnSnailsRaceOfAllx1
import Derived.Test.YtbbglmoenjdloaaOFnSnailsRaceOfAllx2
import Derived.Test.YtbbglmoenjdloaaOFnSnailsRaceOfAllx3
import Derived.Test.YtbbglmoenjdloaaOFnSnailsRaceOfAllx4
import Derived.Test.YtbbglmoenjdloaaOFnSnailsRaceOfAllx5
import Derived.Test.YtbbglmoenjdloaaOFnSnailsRaceOfAllx6
import Derived.Test.YtbbglmoenjdloaaOFnSnailsRaceOfAllx7
import Derived.Test.YtbbglmoenjdloaaOFnSnailsRaceOfAllx8
import Derived.Test.YtbbglmoenjdloaaOFnSnailsRaceOfAllx9
import Derived.Test.YtbbglmoenjdloaaOFnSnailsRaceOfAllx10
import Derived.Test.YtbbglmoenjdloaaOFnSnailsRaceOfAllx11
namespace Go.Proofs.Ytbbglmoenjdloaa.OFnSnailsRaceOfAll
open Go.RowKit Go.Proofs.YtbbglmoenjdloaaW.PrintWords Go.Proofs.YtbbglmoenjdloaaW.PrintLast Go.Proofs.YtbbglmoenjdloaaW.PrintMore
attribute [local go_sem] max2_int min2_int max_two min_two max_three min_three max_four min_four   -- for this text's walks alone
set_option linter.unusedVariables false
set_option linter.unusedSimpArgs false

end Go.Proofs.Ytbbglmoenjdloaa.OFnSnailsRaceOfAll
