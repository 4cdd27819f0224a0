/- Directions have numbers of their own, and go back: for any numbers. -/
import Derived.Test.YtkbobgkjlpgcaaaPConfDirsx1
namespace Go.Proofs.Ytkbobgkjlpgcaaa.Pure
open Go.RowKit Go.Proofs.Ytkbobgkjlpgcaaa.Hand Go.Proofs.Ytkbobgkjlpgcaaa.PConfDirs Go.Proofs.YtkbobgkjlpgcaaaW.PrintWords Go.Proofs.YtkbobgkjlpgcaaaW.PrintLast
set_option linter.unusedVariables false
set_option linter.unusedSimpArgs false

theorem awake_tells (k : Nat) (hk : 6 ≤ k) : muleteerlaw07_awake.f k = some true := at_rounds muleteerlaw07_awake.mono hk (by decide +kernel)
theorem within_f (a lo hi : Int) : conf_within.f a lo hi = some (decide (lo ≤ a ∧ a ≤ hi)) := by
  unfold conf_within.f
  by_cases h : a ≥ lo
  · rw [if_pos h]; simp; omega
  · rw [if_neg h]; simp; omega
theorem dir_yes (n : Int) (h : 0 ≤ n ∧ n ≤ 7) : conf_Dir.f n = some (n / 2, n % 2) := by
  unfold conf_Dir.f
  rw [within_f, Option.bind_some, if_pos (by simp; omega), Int.tdiv_eq_ediv_of_nonneg h.1, Int.tmod_eq_emod_of_nonneg h.1]
  have : wrap64 (n / 2) = n / 2 := by unfold wrap64; omega
  rw [this]
theorem dir_no (n : Int) (h : ¬ (0 ≤ n ∧ n ≤ 7)) : conf_Dir.f n = some (-1, -1) := by
  unfold conf_Dir.f
  rw [within_f, Option.bind_some, if_neg (by simpa using h)]
theorem number_yes (c f : Int) (h : 0 ≤ c ∧ c ≤ 3 ∧ 0 ≤ f ∧ f ≤ 1) : conf_Number.f c f = some (2 * c + f) := by
  unfold conf_Number.f
  rw [within_f, Option.bind_some, if_pos (by simp; omega), within_f, Option.bind_some, if_pos (by simp; omega)]
  have : wrap64 (wrap64 (2 * c) + f) = 2 * c + f := by unfold wrap64; omega
  rw [this]
theorem number_no (c f : Int) (h : ¬ (0 ≤ c ∧ c ≤ 3 ∧ 0 ≤ f ∧ f ≤ 1)) : conf_Number.f c f = some (-1) := by
  unfold conf_Number.f
  rw [within_f, Option.bind_some]
  by_cases h1 : 0 ≤ c ∧ c ≤ 3
  · rw [if_pos (by simpa using h1), within_f, Option.bind_some, if_neg (by simp; omega)]
  · rw [if_neg (by simpa using h1)]
theorem j1_tells (k : Nat) (hk : 10 ≤ k) (c f : Int) (kk : Int) (hkk : conf_Number.f c f = some kk) : muleteerlaw07_ConfDirs.j1 k c f kk = some true := by
  obtain ⟨k, rfl⟩ : ∃ m, k = m + 2 := ⟨k - 2, by omega⟩
  have hno : ∀ (h : ¬ (0 ≤ c ∧ c ≤ 3 ∧ 0 ≤ f ∧ f ≤ 1)), muleteerlaw07_ConfDirs.j2 (k + 1) c f kk true = some true := by
    intro h
    have e : kk = -1 := by rw [number_no c f h] at hkk; exact (Option.some.inj hkk).symm
    simp only [muleteerlaw07_ConfDirs.j2]
    rw [if_pos trivial, awake_tells _ (by omega), e]
    rfl
  simp only [muleteerlaw07_ConfDirs.j1]
  by_cases h1 : c < 0
  · rw [if_pos h1]; exact hno (by omega)
  · rw [if_neg h1]
    by_cases h2 : c > 3
    · rw [if_pos h2]; exact hno (by omega)
    · rw [if_neg h2]
      by_cases h3 : f < 0
      · rw [if_pos h3]; exact hno (by omega)
      · rw [if_neg h3]
        by_cases h4 : f > 1
        · rw [decide_eq_true h4]; exact hno (by omega)
        · rw [decide_eq_false h4]
          have e : kk = 2 * c + f := by rw [number_yes c f (by omega)] at hkk; exact (Option.some.inj hkk).symm
          have hw : wrap64 (wrap64 (2 * c) + f) = 2 * c + f := by unfold wrap64; omega
          simp only [muleteerlaw07_ConfDirs.j2]
          rw [if_neg (by decide), e, dir_yes _ (by omega), Option.bind_some, awake_tells _ (by omega), Option.bind_some, if_pos rfl, hw, if_pos rfl, if_pos (by show (2 * c + f) / 2 = c; omega)]
          simp
          omega
theorem ConfDirs : muleteerlaw07_ConfDirs.Pure := by
  intro n c f _ _ _
  refine ⟨20, ?_⟩
  unfold muleteerlaw07_ConfDirs.f
  obtain ⟨kk, hkk⟩ : ∃ kk, conf_Number.f c f = some kk := by
    by_cases h : 0 ≤ c ∧ c ≤ 3 ∧ 0 ≤ f ∧ f ≤ 1
    · exact ⟨_, number_yes c f h⟩
    · exact ⟨_, number_no c f h⟩
  by_cases h : 0 ≤ n ∧ n ≤ 7
  · rw [dir_yes n h, Option.bind_some, hkk, Option.bind_some, if_neg (by omega), decide_eq_false (by omega)]
    simp only [muleteerlaw07_ConfDirs.j0]
    have e1 : wrap64 (Int.tdiv n 2) = n / 2 := by rw [Int.tdiv_eq_ediv_of_nonneg h.1]; unfold wrap64; omega
    have e2 : Int.tmod n 2 = n % 2 := Int.tmod_eq_emod_of_nonneg h.1
    rw [if_neg (by decide), e1, e2, if_pos rfl, if_pos rfl, number_yes _ _ (by omega), Option.bind_some, if_pos (by omega)]
    exact j1_tells 19 (by omega) c f kk hkk
  · rw [dir_no n h, Option.bind_some, hkk, Option.bind_some]
    have hj : muleteerlaw07_ConfDirs.j0 20 n c f (-1) (-1) kk true = some true := by
      simp only [muleteerlaw07_ConfDirs.j0]
      rw [if_pos trivial, if_pos trivial]
      exact j1_tells 19 (by omega) c f kk hkk
    by_cases h0 : n < 0
    · rw [if_pos h0]; exact hj
    · rw [if_neg h0, decide_eq_true (by omega)]; exact hj

end Go.Proofs.Ytkbobgkjlpgcaaa.Pure
