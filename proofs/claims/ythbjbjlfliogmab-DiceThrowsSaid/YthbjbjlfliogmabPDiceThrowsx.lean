/- Written for this claim by a program of the session (wip/tools/inject.py) over the kit's print; what is proved by hand is imported. -/
import Derived.Test.YthbjbjlfliogmabPDiceThrowsx0
import Derived.Test.YthbjbjlfliogmabPDiceThrowsx1
namespace Go.Proofs.Ythbjbjlfliogmab.PDiceThrows
open Go.Proofs.Ythbjbjlfliogmab.Hand
open Go.RowKit Go.Proofs.YthbjbjlfliogmabW.PrintWords Go.Proofs.YthbjbjlfliogmabW.PrintLast Go.Proofs.YthbjbjlfliogmabW.PrintMore
attribute [local go_sem] max2_int min2_int max_two min_two max_three min_three max_four min_four   -- for this text's walks alone
set_option linter.unusedVariables false
set_option linter.unusedSimpArgs false

end Go.Proofs.Ythbjbjlfliogmab.PDiceThrows
