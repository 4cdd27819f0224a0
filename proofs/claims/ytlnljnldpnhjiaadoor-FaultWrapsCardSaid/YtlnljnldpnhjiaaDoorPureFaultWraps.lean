/- FaultWraps holds of any two numbers, any places and another one: the walk of the law. -/
import Derived.Test.YtlnljnldpnhjiaaDoorFaultWrapsW
namespace Go.Proofs.YtlnljnldpnhjiaaDoor.Pure
open Go.RowKit Go.Proofs.YtlnljnldpnhjiaaDoorW.PrintWords Go.Proofs.YtlnljnldpnhjiaaDoor.Hand
theorem FaultWraps (L : List Int) (A1 : Option Addr) (c1 : Nat) (l1 : List Int) (p : Int) (w : World) (hg : w.cell? ⟨0, 0, none⟩ = some (.iface 84 (.agg #[.pointer (some ⟨1, 26, none⟩)])))
    (hn : L.length = 2) (hr1 : Kd.C (Kd.int .i64) w A1 l1.length l1) (hc1 : l1.length ≤ c1) (_ : ∀ a ∈ L, (Lit.int .i64 a).wf = true) (_ : l1.length * 8 ≤ 140737488351232 ∧ ∀ x ∈ l1, (Lit.int .i64 x).wf = true) (_ : (Lit.int .i64 p).wf = true) :
    Calls Tryd.prog 4 #[.agg (L.map (Value.int .i64)).toArray, .slice A1 l1.length c1, .int .i64 p] w fun e w' => e = .returned (.bool true) ∧ Below w.heap.size w w' := by
  match L, hn with
  | [x, y], _ => exact FaultWraps_walk x y A1 c1 l1 p w hg hr1 hc1
end Go.Proofs.YtlnljnldpnhjiaaDoor.Pure
