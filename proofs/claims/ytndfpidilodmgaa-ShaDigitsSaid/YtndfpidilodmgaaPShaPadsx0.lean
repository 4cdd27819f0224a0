/- Written for this claim by a program of the session (wip/tools/inject.py) over the kit's print; what is proved by hand is imported. -/
import Derived.Test.YtndfpidilodmgaaProg
import Derived.Below
import Derived.Deep.Draws
import Derived.Deep.AppendLies
import Derived.Maps.AppendAt
import Derived.OwnWalk
import Derived.Laws.BytesArg
import Derived.Laws.MakeOwn
import Derived.Laws.OwnMore
import Derived.Deep.OwnRows
import Derived.Tactics
import Derived.Lib.ConvBytes
import Derived.Laws.Slices
import Derived.WalkKit
import Derived.KernelRfl
import Derived.RowKit3
import Derived.Deep.LoopGhost
import Derived.Deep.QuietTactic
import Derived.BigQuiet
import Derived.WideLaws
import Derived.Deep.DeepCutAuto
import Derived.Deep.CutBlock
import Derived.Deep.RegionHeld3
import Derived.Laws.Rows
import Derived.Lib.AppendStr
import Derived.ArgAppend
import Derived.Laws.IdiomCopy
import Derived.OrdersHeld
import Derived.Laws.BitsLemmas
import Derived.RowKit
import Derived.Test.YtndfpidilodmgaaHand0
import Derived.Test.YtndfpidilodmgaaWWords
import Derived.Test.YtndfpidilodmgaaWLast
import Derived.Test.YtndfpidilodmgaaWTab
import Derived.Test.YtndfpidilodmgaaWFour
import Derived.Test.YtndfpidilodmgaaWQPut
import Derived.Test.YtndfpidilodmgaaWApart
import Derived.Test.YtndfpidilodmgaaWArr
import Derived.Test.YtndfpidilodmgaaWZeros
import Derived.Test.YtndfpidilodmgaaWFoot
import Derived.Test.YtndfpidilodmgaaWKept
import Derived.Test.YtndfpidilodmgaaWShare
import Derived.Test.YtndfpidilodmgaaWN
import Derived.Test.YtndfpidilodmgaaWFootNe
import Derived.Test.YtndfpidilodmgaaWAt
import Derived.Test.YtndfpidilodmgaaWEqStruct
import Derived.Test.YtndfpidilodmgaaWRepsOne
import Derived.Test.YtndfpidilodmgaaWInv
import Derived.Test.YtndfpidilodmgaaWInvWords
import Derived.Test.YtndfpidilodmgaaWGuard
import Derived.Test.YtndfpidilodmgaaWNEv
import Derived.Test.YtndfpidilodmgaaWMore
namespace Go.Proofs.Ytndfpidilodmgaa.PShaPads
open Go.Proofs.Ytndfpidilodmgaa.Hand
open Go.RowKit Go.Proofs.YtndfpidilodmgaaW.PrintWords Go.Proofs.YtndfpidilodmgaaW.PrintLast Go.Proofs.YtndfpidilodmgaaW.PrintMore
attribute [local go_sem] max2_int min2_int max_two min_two max_three min_three max_four min_four   -- for this text's walks alone
set_option linter.unusedVariables false
set_option linter.unusedSimpArgs false



def errW : Option Int → Value
  | none => .nilIface
  | some c => .iface 0 (.int .i64 c)
theorem errW_none : errW none = .nilIface := rfl
theorem errW_some (c : Int) : errW (some c) = .iface 0 (.int .i64 c) := rfl

theorem info5 : (Try.prog.info? 5).map (fun i => (i.zero, i.size, i.bytes)) = some (some (.int .u8 0), 1, 1) := by kernel_rfl
-- the values' own types

end Go.Proofs.Ytndfpidilodmgaa.PShaPads
