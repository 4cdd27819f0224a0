/- Written for this claim by a program of the session (wip/tools/inject.py) over the kit's print; what is proved by hand is imported. -/
import Derived.Test.YtlfminnncfgbfaaPDiceAlikex0
import Derived.Test.YtlfminnncfgbfaaPDiceAlikex1
import Derived.Test.YtlfminnncfgbfaaPDiceAlikex2
import Derived.Test.YtlfminnncfgbfaaPDiceAlikex3
import Derived.Test.YtlfminnncfgbfaaPDiceAlikex4
import Derived.Test.YtlfminnncfgbfaaPDiceAlikex5
import Derived.Test.YtlfminnncfgbfaaPDiceAlikex6
namespace Go.Proofs.Ytlfminnncfgbfaa.PDiceAlike
open Go.Proofs.Ytlfminnncfgbfaa.Hand
open Go.RowKit Go.Proofs.YtlfminnncfgbfaaW.PrintWords Go.Proofs.YtlfminnncfgbfaaW.PrintLast Go.Proofs.YtlfminnncfgbfaaW.PrintMore
attribute [local go_sem] max2_int min2_int max_two min_two max_three min_three max_four min_four   -- for this text's walks alone
set_option linter.unusedVariables false
set_option linter.unusedSimpArgs false

end Go.Proofs.Ytlfminnncfgbfaa.PDiceAlike
