/- A life that nobody made has ended, and does nothing; nor is a step done that is none: for any number, whether a crash is asked for or not. -/
import Derived.Test.YtkbobgkjlpgcaaaPLifeNobodyx
import Derived.Test.YtkbobgkjlpgcaaaHandLife
namespace Go.Proofs.Ytkbobgkjlpgcaaa.Pure
open Go.RowKit Go.Proofs.Ytkbobgkjlpgcaaa.Hand Go.Proofs.Ytkbobgkjlpgcaaa.PLifeNobody Go.Proofs.YtkbobgkjlpgcaaaW.PrintWords Go.Proofs.YtkbobgkjlpgcaaaW.PrintLast
set_option linter.unusedVariables false
set_option linter.unusedSimpArgs false

theorem LifeNobody (a0 : Int) (a1 : Bool) (w : World) (w0 : (Lit.int .i64 a0).wf = true) : Calls Try.prog 14 #[.int .i64 a0, .bool a1] w fun e w' => e = .returned (.bool true) ∧ Below w.heap.size w w' := nobody_any a0 a1 w

end Go.Proofs.Ytkbobgkjlpgcaaa.Pure
