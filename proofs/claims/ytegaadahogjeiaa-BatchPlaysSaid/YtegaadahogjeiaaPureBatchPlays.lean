/- BatchPlays holds of any sizes, any waits and any acts: the walk of the law. -/
import Derived.Test.YtegaadahogjeiaaBatH
import Derived.DataShut
namespace Go.Proofs.Ytegaadahogjeiaa.Pure
open Go.RowKit Go.Proofs.Ytegaadahogjeiaa.PBatchPlays Go.Proofs.YtegaadahogjeiaaW.PrintWords Go.Proofs.Ytegaadahogjeiaa.Hand
theorem u8_of {x : Int} (h : (Lit.int .u8 x).wf = true) : 0 ≤ x ∧ x < 256 := by
  have h' := (Lit.wf_int_iff _ _).1 h
  have e1 : IntKind.u8.min = 0 := rfl
  have e2 : IntKind.u8.max = 255 := rfl
  rw [e1, e2] at h'
  omega
theorem u64_of {x : Int} (h : (Lit.int .u64 x).wf = true) : 0 ≤ x ∧ x < 18446744073709551616 := by
  have h' := (Lit.wf_int_iff _ _).1 h
  have e1 : IntKind.u64.min = 0 := rfl
  have e2 : IntKind.u64.max = 18446744073709551615 := rfl
  rw [e1, e2] at h'
  omega
set_option maxRecDepth 100000 in
theorem BatchPlays (a0 a1 : Int) (A2 : Option Addr) (c2 : Nat) (l2 : List S39) (w : World) (hr2 : Kd.C k39 w A2 l2.length l2) (_ : l2.length ≤ c2) (_ : (Lit.int .i64 a0).wf = true) (_ : (Lit.int .i64 a1).wf = true)
    (w2 : l2.length * 88 ≤ 140737488351232 ∧ ∀ x ∈ l2, (Lit.int .u8 x.f0).wf = true ∧ ((Lit.int .i64 x.f1.f0).wf = true ∧ ((Lit.int .i64 x.f1.f1.f0).wf = true ∧ (Lit.int .i64 x.f1.f1.f1).wf = true ∧ (Lit.int .u64 x.f1.f1.f2).wf = true ∧ (Lit.int .u64 x.f1.f1.f3).wf = true ∧ x.f1.f1.f4.size ≤ 140737488351232) ∧ x.f1.f2.size ≤ 140737488351232) ∧ (Lit.int .u64 x.f2).wf = true) :
    Calls Try.prog 3 #[.int .i64 a0, .int .i64 a1, .slice A2 l2.length c2] w fun e w' => e = .returned (.bool true) ∧ Below w.heap.size w w' := by
  by_cases h1 : a0 < 1
  · exact BatchPlays_bad a0 a1 (.inl h1) A2 l2.length c2 w
  by_cases h2 : a0 > 32
  · exact BatchPlays_bad a0 a1 (.inr (.inl h2)) A2 l2.length c2 w
  by_cases h3 : a1 < 0
  · exact BatchPlays_bad a0 a1 (.inr (.inr (.inl h3))) A2 l2.length c2 w
  by_cases h4 : a1 > 8
  · exact BatchPlays_bad a0 a1 (.inr (.inr (.inr h4))) A2 l2.length c2 w
  exact BatchPlays_good a0 a1 h1 h2 h3 h4 A2 c2 l2 w hr2 fun x hx => ⟨u8_of (w2.2 x hx).1, u64_of (w2.2 x hx).2.2⟩
end Go.Proofs.Ytegaadahogjeiaa.Pure
