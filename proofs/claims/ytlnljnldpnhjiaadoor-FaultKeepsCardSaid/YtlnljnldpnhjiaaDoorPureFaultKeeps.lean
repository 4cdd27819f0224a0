/- FaultKeeps holds of any number and any places: the walk of the law. -/
import Derived.Test.YtlnljnldpnhjiaaDoorFaultKeepsW
namespace Go.Proofs.YtlnljnldpnhjiaaDoor.Pure
open Go.RowKit Go.Proofs.YtlnljnldpnhjiaaDoorW.PrintWords Go.Proofs.YtlnljnldpnhjiaaDoor.Hand
theorem FaultKeeps (a0 : Int) (A1 : Option Addr) (c1 : Nat) (l1 : List Int) (w : World) (hg : w.cell? ⟨0, 0, none⟩ = some (.iface 84 (.agg #[.pointer (some ⟨1, 26, none⟩)])))
    (hr1 : Kd.C (Kd.int .i64) w A1 l1.length l1) (hc1 : l1.length ≤ c1) (_ : (Lit.int .i64 a0).wf = true) (_ : l1.length * 8 ≤ 140737488351232 ∧ ∀ x ∈ l1, (Lit.int .i64 x).wf = true) :
    Calls Tryd.prog 3 #[.int .i64 a0, .slice A1 l1.length c1] w fun e w' => e = .returned (.bool true) ∧ Below w.heap.size w w' :=
  FaultKeeps_walk a0 A1 c1 l1 w hg hr1 hc1
end Go.Proofs.YtlnljnldpnhjiaaDoor.Pure
