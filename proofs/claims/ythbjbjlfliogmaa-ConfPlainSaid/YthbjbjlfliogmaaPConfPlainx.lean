/- Written for this claim by a program of the session (wip/tools/inject.py) over the kit's print; what is proved by hand is imported. -/
import Derived.Test.YthbjbjlfliogmaaPConfPlainx0
import Derived.Test.YthbjbjlfliogmaaPConfPlainx1
import Derived.Test.YthbjbjlfliogmaaPConfPlainx2
import Derived.Test.YthbjbjlfliogmaaPConfPlainx3
namespace Go.Proofs.Ythbjbjlfliogmaa.PConfPlain
open Go.Proofs.Ythbjbjlfliogmaa.Hand
open Go.RowKit Go.Proofs.YthbjbjlfliogmaaW.PrintWords Go.Proofs.YthbjbjlfliogmaaW.PrintLast Go.Proofs.YthbjbjlfliogmaaW.PrintMore
attribute [local go_sem] max2_int min2_int max_two min_two max_three min_three max_four min_four   -- for this text's walks alone
set_option linter.unusedVariables false
set_option linter.unusedSimpArgs false

end Go.Proofs.Ythbjbjlfliogmaa.PConfPlain
