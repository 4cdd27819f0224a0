/- The statement ShaSums holds of any text and any two cuts: every call of it returns true. -/
import Derived.Test.YtndfpidilodmgaaShaU
namespace Go.Proofs.Ytndfpidilodmgaa.Pure
open Go.RowKit
theorem ShaSums (s : ByteArray) (L : List Int) (w : World) (_w0 : s.size ≤ 140737488351232) (hL : L.length = 2) (hw : ∀ a ∈ L, (Lit.int .u16 a).wf = true) : Calls Try.prog 3 #[.string s, .agg (L.map (Value.int .u16)).toArray] w fun e w' => e = .returned (.bool true) ∧ Below w.heap.size w w' := by
  match L, hL, hw with
  | [a0, a1], _, hw =>
    have h0 := hw a0 (by simp)
    have h1 := hw a1 (by simp)
    simp [Lit.wf, IntKind.min, IntKind.max, IntKind.signed, IntKind.bits] at h0 h1
    exact Hand.ShaSums_walk s a0 a1 (by omega) (by omega) (by omega) (by omega) w
end Go.Proofs.Ytndfpidilodmgaa.Pure
