/- Who is next, of any who can, by any number: for every list of up to 100 and every number; longer ones answer by the example. -/
import Derived.Test.YtkbobgkjlpgcaaaPPicksNextx1
namespace Go.Proofs.Ytkbobgkjlpgcaaa.Pure
open Go.RowKit Go.Proofs.Ytkbobgkjlpgcaaa.Hand Go.Proofs.Ytkbobgkjlpgcaaa.PPicksNext Go.Proofs.YtkbobgkjlpgcaaaW.PrintWords Go.Proofs.YtkbobgkjlpgcaaaW.PrintLast
set_option linter.unusedVariables false
set_option linter.unusedSimpArgs false

theorem awake_tells (k : Nat) (hk : 6 ≤ k) : muleteerlaw19_awake.f k = some true := at_rounds muleteerlaw19_awake.mono hk (by decide +kernel)
theorem PicksNext : muleteerlaw19_PicksNext.Pure := by
  intro l n _ _ _ hn
  refine ⟨8, ?_⟩
  unfold muleteerlaw19_PicksNext.f
  by_cases h : (l.length : Int) > 100
  · rw [if_pos h, awake_tells _ (by omega)]; rfl
  · rw [if_neg h]
    unfold picks_Next.f
    by_cases h0 : n < 0
    · rw [if_pos h0, Option.bind_some, if_pos h0, muleteerlaw19_PicksNext.j0, if_pos rfl, awake_tells _ (by omega), Option.bind_some, if_pos rfl]; rfl
    · rw [if_neg h0]
      by_cases h1 : (l.length : Int) = 0
      · rw [if_pos h1, Option.bind_some, if_neg h0, h1, muleteerlaw19_PicksNext.j0, if_pos (by rfl), awake_tells _ (by omega), Option.bind_some, if_pos rfl]; rfl
      · have hm0 : 0 ≤ Int.tmod n (l.length : Int) := Int.tmod_nonneg _ (by omega)
        have hm1 : Int.tmod n (l.length : Int) < (l.length : Int) := Int.tmod_lt_of_pos _ (by omega)
        have hb : ((l.length : Int) == 0) = false := by simpa using h1
        rw [if_neg h1, if_pos hm0, if_pos hm1, Option.bind_some, if_neg h0, hb, muleteerlaw19_PicksNext.j0, if_neg (by decide), awake_tells _ (by omega), Option.bind_some, if_pos rfl, if_neg h1, if_pos hm0, if_pos hm1]
        simp

end Go.Proofs.Ytkbobgkjlpgcaaa.Pure
