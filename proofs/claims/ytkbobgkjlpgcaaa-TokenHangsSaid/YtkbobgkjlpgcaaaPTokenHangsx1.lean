/- Written for this claim by a program of the session (wip/tools/inject.py) over the kit's print; what is proved by hand is imported. -/
import Derived.Test.YtkbobgkjlpgcaaaPTokenHangsx0
namespace Go.Proofs.Ytkbobgkjlpgcaaa.PTokenHangs
open Go.Proofs.Ytkbobgkjlpgcaaa.Hand
open Go.RowKit Go.Proofs.YtkbobgkjlpgcaaaW.PrintWords Go.Proofs.YtkbobgkjlpgcaaaW.PrintLast Go.Proofs.YtkbobgkjlpgcaaaW.PrintMore
attribute [local go_sem] max2_int min2_int max_two min_two max_three min_three max_four min_four   -- for this text's walks alone
set_option linter.unusedVariables false
set_option linter.unusedSimpArgs false

-- NOT PRINTED: function 24 (token_New)

-- NOT PRINTED: function 25 (token_Token_Child)

-- NOT PRINTED: function 26 (token_Token_Call)

-- NOT PRINTED: function 28 (token_Token_Reason)

-- NOT PRINTED: function 29 (token_Token_Off)

-- NOT PRINTED: function 30 (token_Token_Depth)

-- NOT PRINTED: function 23 (muleteerlaw17_awake)

-- by hand: muleteerlaw17_TokenHangs

end Go.Proofs.Ytkbobgkjlpgcaaa.PTokenHangs
