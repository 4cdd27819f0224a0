/- TokenPlays holds of any list of acts: the walk, over the cells of a list of arrays. -/
import Derived.Test.YtgbdkhdilnogoaaTokD
import Derived.Test.YtgbdkhdilnogoaaOpensArr
namespace Go.Proofs.Ytgbdkhdilnogoaa.Pure
open Go.RowKit Go.Proofs.YtgbdkhdilnogoaaW.PrintWords Go.Proofs.Ytgbdkhdilnogoaa.Hand
theorem TokenPlays (A : Option Addr) (c : Nat) (L : List (List Int)) (w : World) (hr : (Kd.arr 3 (Kd.int .i64) (by decide)).C w A L.length L) (_ : L.length ≤ c)
    (_ : L.length * 24 ≤ 140737488351232 ∧ ∀ x ∈ L, ∀ a ∈ x, (Lit.int .i64 a).wf = true) :
    Calls Try.prog 3 #[.slice A L.length c] w fun e w' => e = .returned (.bool true) ∧ Below w.heap.size w w' :=
  TokenPlays_walk A L.length c L w (fun h0 => Opens.arr_at hr h0 (by decide))
end Go.Proofs.Ytgbdkhdilnogoaa.Pure
