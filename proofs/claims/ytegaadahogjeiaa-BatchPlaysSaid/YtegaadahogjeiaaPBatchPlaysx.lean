/- Written for this claim by a program of the session (wip/tools/inject.py) over the kit's print; what is proved by hand is imported. -/
import Derived.Test.YtegaadahogjeiaaPBatchPlaysx0
import Derived.Test.YtegaadahogjeiaaPBatchPlaysx1
import Derived.Test.YtegaadahogjeiaaPBatchPlaysx2
import Derived.Test.YtegaadahogjeiaaPBatchPlaysx3
namespace Go.Proofs.Ytegaadahogjeiaa.PBatchPlays
open Go.Proofs.Ytegaadahogjeiaa.Hand
open Go.RowKit Go.Proofs.YtegaadahogjeiaaW.PrintWords Go.Proofs.YtegaadahogjeiaaW.PrintLast Go.Proofs.YtegaadahogjeiaaW.PrintMore
attribute [local go_sem] max2_int min2_int max_two min_two max_three min_three max_four min_four   -- for this text's walks alone
set_option linter.unusedVariables false
set_option linter.unusedSimpArgs false

end Go.Proofs.Ytegaadahogjeiaa.PBatchPlays
