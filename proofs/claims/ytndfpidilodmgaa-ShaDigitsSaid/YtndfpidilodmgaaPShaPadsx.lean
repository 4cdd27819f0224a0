/- Written for this claim by a program of the session (wip/tools/inject.py) over the kit's print; what is proved by hand is imported. -/
import Derived.Test.YtndfpidilodmgaaPShaPadsx0
import Derived.Test.YtndfpidilodmgaaPShaPadsx1
namespace Go.Proofs.Ytndfpidilodmgaa.PShaPads
open Go.Proofs.Ytndfpidilodmgaa.Hand
open Go.RowKit Go.Proofs.YtndfpidilodmgaaW.PrintWords Go.Proofs.YtndfpidilodmgaaW.PrintLast Go.Proofs.YtndfpidilodmgaaW.PrintMore
attribute [local go_sem] max2_int min2_int max_two min_two max_three min_three max_four min_four   -- for this text's walks alone
set_option linter.unusedVariables false
set_option linter.unusedSimpArgs false

end Go.Proofs.Ytndfpidilodmgaa.PShaPads
