/- FaultOthers holds of any text, any places and another one: the walk of the law. -/
import Derived.Test.YtlnljnldpnhjiaaDoorFaultOthersW
namespace Go.Proofs.YtlnljnldpnhjiaaDoor.Pure
open Go.RowKit Go.Proofs.YtlnljnldpnhjiaaDoorW.PrintWords Go.Proofs.YtlnljnldpnhjiaaDoor.Hand
theorem FaultOthers (s : ByteArray) (A1 : Option Addr) (c1 : Nat) (l1 : List Int) (p : Int) (w : World) (hg : w.cell? ⟨0, 0, none⟩ = some (.iface 84 (.agg #[.pointer (some ⟨1, 26, none⟩)])))
    (hr1 : Kd.C (Kd.int .i64) w A1 l1.length l1) (hc1 : l1.length ≤ c1) (_ : s.size ≤ 140737488351232) (_ : l1.length * 8 ≤ 140737488351232 ∧ ∀ x ∈ l1, (Lit.int .i64 x).wf = true) (_ : (Lit.int .i64 p).wf = true) :
    Calls Tryd.prog 5 #[.string s, .slice A1 l1.length c1, .int .i64 p] w fun e w' => e = .returned (.bool true) ∧ Below w.heap.size w w' :=
  FaultOthers_walk s A1 c1 l1 p w hg hr1 hc1
end Go.Proofs.YtlnljnldpnhjiaaDoor.Pure
