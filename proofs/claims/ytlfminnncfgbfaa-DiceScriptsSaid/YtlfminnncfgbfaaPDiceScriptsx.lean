/- Written for this claim by a program of the session (wip/tools/inject.py) over the kit's print; what is proved by hand is imported. -/
import Derived.Test.YtlfminnncfgbfaaPDiceScriptsx0
import Derived.Test.YtlfminnncfgbfaaPDiceScriptsx1
import Derived.Test.YtlfminnncfgbfaaPDiceScriptsx2
import Derived.Test.YtlfminnncfgbfaaPDiceScriptsx3
import Derived.Test.YtlfminnncfgbfaaPDiceScriptsx4
import Derived.Test.YtlfminnncfgbfaaPDiceScriptsx5
import Derived.Test.YtlfminnncfgbfaaPDiceScriptsx6
import Derived.Test.YtlfminnncfgbfaaPDiceScriptsx7
import Derived.Test.YtlfminnncfgbfaaPDiceScriptsx8
import Derived.Test.YtlfminnncfgbfaaPDiceScriptsx9
import Derived.Test.YtlfminnncfgbfaaPDiceScriptsx10
import Derived.Test.YtlfminnncfgbfaaPDiceScriptsx11
namespace Go.Proofs.Ytlfminnncfgbfaa.PDiceScripts
open Go.Proofs.Ytlfminnncfgbfaa.Hand
open Go.RowKit Go.Proofs.YtlfminnncfgbfaaW.PrintWords Go.Proofs.YtlfminnncfgbfaaW.PrintLast Go.Proofs.YtlfminnncfgbfaaW.PrintMore
attribute [local go_sem] max2_int min2_int max_two min_two max_three min_three max_four min_four   -- for this text's walks alone
set_option linter.unusedVariables false
set_option linter.unusedSimpArgs false

end Go.Proofs.Ytlfminnncfgbfaa.PDiceScripts
