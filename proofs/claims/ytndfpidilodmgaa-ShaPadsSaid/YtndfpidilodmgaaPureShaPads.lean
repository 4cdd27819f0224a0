/- The statement ShaPads holds of any number: every call of it returns true. -/
import Derived.Test.YtndfpidilodmgaaShaPE
namespace Go.Proofs.Ytndfpidilodmgaa.Pure
open Go.RowKit
theorem ShaPads (a0 : Int) (w : World) (_w0 : (Lit.int .i64 a0).wf = true) : Calls Try.prog 4 #[.int .i64 a0] w fun e w' => e = .returned (.bool true) ∧ Below w.heap.size w w' := Hand.ShaPads_walk a0 w
end Go.Proofs.Ytndfpidilodmgaa.Pure
