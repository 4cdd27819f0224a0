/- The statement ShaTurns holds of any state and any block: every call of it returns true. -/
import Derived.Test.YtndfpidilodmgaaShaT
namespace Go.Proofs.Ytndfpidilodmgaa.Pure
open Go.RowKit
theorem ShaTurns (L : List Int) (s : ByteArray) (w : World) (hL : L.length = 8) (hw : ∀ a ∈ L, (Lit.int .u32 a).wf = true) (_w1 : s.size ≤ 140737488351232) : Calls Try.prog 5 #[.agg (L.map (Value.int .u32)).toArray, .string s] w fun e w' => e = .returned (.bool true) ∧ Below w.heap.size w w' :=
  Hand.ShaTurns_walk L hL (fun x hx => by
    have h := hw x hx
    simp [Lit.wf, IntKind.min, IntKind.max, IntKind.signed, IntKind.bits] at h
    exact ⟨by omega, by omega⟩) s w
end Go.Proofs.Ytndfpidilodmgaa.Pure
