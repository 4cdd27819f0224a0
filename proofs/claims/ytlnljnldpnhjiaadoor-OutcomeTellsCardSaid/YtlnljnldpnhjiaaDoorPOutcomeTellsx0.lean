/- Written for this claim by a program of the session (wip/tools/inject.py) over the kit's print; what is proved by hand is imported. -/
import Derived.Test.YtlnljnldpnhjiaaDoorProg
import Derived.Below
import Derived.Deep.Draws
import Derived.Deep.AppendLies
import Derived.Maps.AppendAt
import Derived.OwnWalk
import Derived.Laws.BytesArg
import Derived.Laws.MakeOwn
import Derived.Laws.OwnMore
import Derived.Deep.OwnRows
import Derived.Tactics
import Derived.Lib.ConvBytes
import Derived.Laws.Slices
import Derived.WalkKit
import Derived.KernelRfl
import Derived.RowKit3
import Derived.Deep.LoopGhost
import Derived.Deep.QuietTactic
import Derived.BigQuiet
import Derived.WideLaws
import Derived.Deep.DeepCutAuto
import Derived.Deep.CutBlock
import Derived.Deep.RegionHeld3
import Derived.Laws.Rows
import Derived.Lib.AppendStr
import Derived.ArgAppend
import Derived.Laws.IdiomCopy
import Derived.OrdersHeld
import Derived.Laws.BitsLemmas
import Derived.RowKit
import Derived.Test.YtlnljnldpnhjiaaDoorHand0
import Derived.Test.YtlnljnldpnhjiaaDoorWWords
import Derived.Test.YtlnljnldpnhjiaaDoorWLast
import Derived.Test.YtlnljnldpnhjiaaDoorWTab
import Derived.Test.YtlnljnldpnhjiaaDoorWFour
import Derived.Test.YtlnljnldpnhjiaaDoorWQPut
import Derived.Test.YtlnljnldpnhjiaaDoorWApart
import Derived.Test.YtlnljnldpnhjiaaDoorWArr
import Derived.Test.YtlnljnldpnhjiaaDoorWZeros
import Derived.Test.YtlnljnldpnhjiaaDoorWFoot
import Derived.Test.YtlnljnldpnhjiaaDoorWKept
import Derived.Test.YtlnljnldpnhjiaaDoorWShare
import Derived.Test.YtlnljnldpnhjiaaDoorWN
import Derived.Test.YtlnljnldpnhjiaaDoorWFootNe
import Derived.Test.YtlnljnldpnhjiaaDoorWAt
import Derived.Test.YtlnljnldpnhjiaaDoorWEqStruct
import Derived.Test.YtlnljnldpnhjiaaDoorWRepsOne
import Derived.Test.YtlnljnldpnhjiaaDoorWInv
import Derived.Test.YtlnljnldpnhjiaaDoorWInvWords
import Derived.Test.YtlnljnldpnhjiaaDoorWGuard
import Derived.Test.YtlnljnldpnhjiaaDoorWNEv
import Derived.Test.YtlnljnldpnhjiaaDoorWMore
namespace Go.Proofs.YtlnljnldpnhjiaaDoor.POutcomeTells
open Go.Proofs.YtlnljnldpnhjiaaDoor.Hand
open Go.RowKit Go.Proofs.YtlnljnldpnhjiaaDoorW.PrintWords Go.Proofs.YtlnljnldpnhjiaaDoorW.PrintLast Go.Proofs.YtlnljnldpnhjiaaDoorW.PrintMore
attribute [local go_sem] max2_int min2_int max_two min_two max_three min_three max_four min_four   -- for this text's walks alone
set_option linter.unusedVariables false
set_option linter.unusedSimpArgs false



def errW : Option Int → Value
  | none => .nilIface
  | some c => .iface 22 (.int .i64 c)
theorem errW_none : errW none = .nilIface := rfl
theorem errW_some (c : Int) : errW (some c) = .iface 22 (.int .i64 c) := rfl

theorem info3 : (Tryd.prog.info? 3).map (fun i => (i.zero, i.size, i.bytes)) = some (some (.int .i64 0), 1, 8) := by kernel_rfl
theorem info9 : (Tryd.prog.info? 9).map (fun i => (i.zero, i.size, i.bytes)) = some (some (.string ⟨#[]⟩), 1, 16) := by kernel_rfl
-- the values' own types

end Go.Proofs.YtlnljnldpnhjiaaDoor.POutcomeTells
