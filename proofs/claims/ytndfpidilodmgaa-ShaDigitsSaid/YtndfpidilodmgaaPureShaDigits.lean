/- The statement ShaDigits holds of any sum and any text: every call of it returns true. -/
import Derived.Test.YtndfpidilodmgaaShaV
namespace Go.Proofs.Ytndfpidilodmgaa.Pure
open Go.RowKit
theorem ShaDigits (L : List Int) (t : ByteArray) (w : World) (hL : L.length = 32) (hw : ∀ a ∈ L, (Lit.int .u8 a).wf = true) (_w1 : t.size ≤ 140737488351232) : Calls Try.prog 6 #[.agg (L.map (Value.int .u8)).toArray, .string t] w fun e w' => e = .returned (.bool true) ∧ Below w.heap.size w w' :=
  Hand.ShaDigits_walk L hL (fun x hx => by
    have h := hw x hx
    simp [Lit.wf, IntKind.min, IntKind.max, IntKind.signed, IntKind.bits] at h
    exact ⟨by omega, by omega⟩) t w
end Go.Proofs.Ytndfpidilodmgaa.Pure
