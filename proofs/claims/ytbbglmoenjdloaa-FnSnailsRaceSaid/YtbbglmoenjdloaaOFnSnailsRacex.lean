/- The law FnSnailsRace: contracts of functions, written by a program (after the kit's print). -/
import Derived.Test.YtbbglmoenjdloaaOFnSnailsRacex0
import Derived.Test.YtbbglmoenjdloaaOFnSnailsRacex1
import Derived.Test.YtbbglmoenjdloaaOFnSnailsRacex2
import Derived.Test.YtbbglmoenjdloaaOFnSnailsRacex3
import Derived.Test.YtbbglmoenjdloaaOFnSnailsRacex4
import Derived.Test.YtbbglmoenjdloaaOFnSnailsRacex5
import Derived.Test.YtbbglmoenjdloaaOFnSnailsRacex6
import Derived.Test.YtbbglmoenjdloaaOFnSnailsRacex7
import Derived.Test.YtbbglmoenjdloaaOFnSnailsRacex8
import Derived.Test.YtbbglmoenjdloaaOFnSnailsRacex9
import Derived.Test.YtbbglmoenjdloaaOFnSnailsRacex10
import Derived.Test.YtbbglmoenjdloaaOFnSnailsRacex11
import Derived.Test.YtbbglmoenjdloaaOFnSnailsRacex12
namespace Go.Proofs.Ytbbglmoenjdloaa.OFnSnailsRace
open Go.RowKit Go.Proofs.YtbbglmoenjdloaaW.PrintWords Go.Proofs.YtbbglmoenjdloaaW.PrintLast Go.Proofs.YtbbglmoenjdloaaW.PrintMore
attribute [local go_sem] max2_int min2_int max_two min_two max_three min_three max_four min_four   -- for this text's walks alone
set_option linter.unusedVariables false
set_option linter.unusedSimpArgs false

end Go.Proofs.Ytbbglmoenjdloaa.OFnSnailsRace
