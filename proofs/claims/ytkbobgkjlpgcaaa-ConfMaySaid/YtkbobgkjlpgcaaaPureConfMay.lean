/- Which configs may be, and what is wrong first with one that may not; how many directions it has, and each one's account: for every config of up to 20 channels and any number; longer ones answer by the example. -/
import Derived.Test.YtkbobgkjlpgcaaaPConfMayx2
namespace Go.Proofs.Ytkbobgkjlpgcaaa.Pure
open Go.RowKit Go.Proofs.Ytkbobgkjlpgcaaa.Hand Go.Proofs.Ytkbobgkjlpgcaaa.PConfMay Go.Proofs.YtkbobgkjlpgcaaaW.PrintWords Go.Proofs.YtkbobgkjlpgcaaaW.PrintLast
set_option linter.unusedVariables false
set_option linter.unusedSimpArgs false

theorem off_f (a lo hi : Int) : muleteerref07_off.f a lo hi = some (!win a lo hi) := by
  unfold muleteerref07_off.f win
  by_cases h1 : a < lo
  · rw [if_pos h1]; simp; omega
  · rw [if_neg h1]
    by_cases h2 : a > hi
    · have : ¬ (lo ≤ a ∧ a ≤ hi) := by omega
      simp [h2, this]
    · have : lo ≤ a ∧ a ≤ hi := by omega
      simp [this]
theorem wrong_step (b : Bool) (s : ByteArray) (r : List (Bool × ByteArray)) (X : Option ByteArray) (h : X = some (checkL r).1) : (if (!b) = true then some s else X) = some (checkL ((b, s) :: r)).1 := by
  cases b
  · rfl
  · exact h
theorem wrong_f (l : List Bool) (x1 x2 x3 x4 x5 x6 x7 x8 x9 x10 x11 : Int) : muleteerref07_Wrong.f l x1 x2 x3 x4 x5 x6 x7 x8 x9 x10 x11 = some (checkL (rulesL (l.length : Int) x1 x2 x3 x4 x5 x6 x7 x8 x9 x10)).1 := by
  unfold muleteerref07_Wrong.f rulesL
  simp only [off_f, Option.bind_some]
  refine wrong_step _ _ _ _ ?_
  refine wrong_step _ _ _ _ ?_
  refine wrong_step _ _ _ _ ?_
  refine wrong_step _ _ _ _ ?_
  refine wrong_step _ _ _ _ ?_
  refine wrong_step _ _ _ _ ?_
  refine wrong_step _ _ _ _ ?_
  refine wrong_step _ _ _ _ ?_
  refine wrong_step _ _ _ _ ?_
  refine wrong_step _ _ _ _ ?_
  refine wrong_step _ _ _ _ ?_
  rfl
theorem checkL_cases : ∀ rs : List (Bool × ByteArray), (∀ p ∈ rs, p.2.toList ≠ []) → ((checkL rs).2 = 0 ∧ (checkL rs).1 = ⟨#[]⟩ ∧ ∀ p ∈ rs, p.1 = true) ∨ ((checkL rs).2 = 1 ∧ (checkL rs).1.toList ≠ [])
  | [], _ => Or.inl ⟨rfl, rfl, fun p h => by cases h⟩
  | (b, s) :: r, h => by
    cases b
    · right
      exact ⟨rfl, h _ List.mem_cons_self⟩
    · rcases checkL_cases r (fun p hp => h p (List.mem_cons_of_mem _ hp)) with ⟨h1, h2, h3⟩ | h1
      · left
        refine ⟨h1, h2, fun p hp => ?_⟩
        rcases List.mem_cons.1 hp with rfl | hp
        · rfl
        · exact h3 p hp
      · exact Or.inr h1
theorem words (n x1 x2 x3 x4 x5 x6 x7 x8 x9 x10 : Int) : ∀ p ∈ rulesL n x1 x2 x3 x4 x5 x6 x7 x8 x9 x10, p.2.toList ≠ [] := by
  intro p hp
  simp only [rulesL, List.mem_cons, List.not_mem_nil, or_false] at hp
  rcases hp with rfl | rfl | rfl | rfl | rfl | rfl | rfl | rfl | rfl | rfl | rfl <;> simp only [] <;> decide +kernel
theorem empty_list : (⟨#[]⟩ : ByteArray).toList = [] := by decide +kernel
theorem awake_tells (k : Nat) (hk : 6 ≤ k) : muleteerlaw07_awake.f k = some true := at_rounds muleteerlaw07_awake.mono hk (by decide +kernel)
theorem within_f (a lo hi : Int) : conf_within.f a lo hi = some (decide (lo ≤ a ∧ a ≤ hi)) := by
  unfold conf_within.f
  by_cases h : a ≥ lo
  · rw [if_pos h]; simp; omega
  · rw [if_neg h]; simp; omega
theorem wf64 {n : Int} (h : (Lit.int .i64 n).wf = true) : -9223372036854775808 ≤ n ∧ n ≤ 9223372036854775807 := by
  have hmin : IntKind.i64.min = -9223372036854775808 := rfl
  have hmax : IntKind.i64.max = 9223372036854775807 := rfl
  simp only [Lit.wf, Bool.and_eq_true, decide_eq_true_eq] at h
  omega

theorem ConfMay : muleteerlaw07_ConfMay.Pure := by
  intro x n hx hn
  obtain ⟨l, x1, x2, x3, x4, x5, x6, x7, x8, x9, x10, x11⟩ := x
  obtain ⟨_, h1, _⟩ := hx
  have hn := wf64 hn
  refine ⟨20, ?_⟩
  show muleteerlaw07_ConfMay.f 20 l x1 x2 x3 x4 x5 x6 x7 x8 x9 x10 x11 n = some true
  unfold muleteerlaw07_ConfMay.f muleteerlaw07_Few.f
  rw [Option.bind_some]
  by_cases h20 : (l.length : Int) ≤ 20
  · rw [if_pos (by simpa using h20)]
    rcases checkL_cases _ (words (l.length : Int) x1 x2 x3 x4 x5 x6 x7 x8 x9 x10) with ⟨e2, e1, hall⟩ | ⟨e2, e1⟩
    · have hc : conf_Check.f l x1 x2 x3 x4 x5 x6 x7 x8 x9 x10 x11 = some (⟨#[]⟩, 0) := by
        show some (checkL _) = _
        rw [← e1, ← e2]
      have hl := hall (win (l.length : Int) 1 4, _) (by unfold rulesL; exact List.mem_cons_self)
      have ha := hall (win x1 1 4, _) (by unfold rulesL; exact List.mem_cons_of_mem _ List.mem_cons_self)
      simp only [win, decide_eq_true_eq] at hl ha
      have hw : wrap64 (2 * (l.length : Int)) = 2 * (l.length : Int) := by unfold wrap64; omega
      have hwo : conf_Workers.f l x1 x2 x3 x4 x5 x6 x7 x8 x9 x10 x11 = some (2 * (l.length : Int)) := by
        unfold conf_Workers.f
        rw [hc, Option.bind_some, if_pos rfl, hw]
      have hacc : conf_Account.f l x1 x2 x3 x4 x5 x6 x7 x8 x9 x10 x11 n = some (if 0 ≤ n ∧ n < 2 * (l.length : Int) then wrap64 (1 + Int.tmod n x1) else -1) := by
        unfold conf_Account.f
        have hw1 : wrap64 (2 * (l.length : Int) - 1) = 2 * (l.length : Int) - 1 := by unfold wrap64; omega
        rw [hwo, Option.bind_some, hw1, within_f, Option.bind_some]
        by_cases hin : 0 ≤ n ∧ n < 2 * (l.length : Int)
        · rw [if_pos (by simp; omega), if_neg (by omega), if_pos hin]
        · rw [if_neg (by simp; omega), if_neg hin]
      rw [hc, Option.bind_some, hwo, Option.bind_some, hacc, Option.bind_some, wrong_f, e1, Option.bind_some, if_pos rfl, if_pos rfl, if_pos empty_list]
      simp only [muleteerlaw07_ConfMay.j0]
      rw [if_neg (by decide), if_pos empty_list, if_pos hw.symm]
      by_cases hn0 : n < 0
      · rw [if_pos hn0]
        simp only [muleteerlaw07_ConfMay.j1]
        rw [if_pos trivial, awake_tells _ (by omega), Option.bind_some, if_pos rfl, if_neg (by omega)]
        rfl
      · rw [if_neg hn0]
        by_cases hnw : n ≥ 2 * (l.length : Int)
        · rw [decide_eq_true hnw]
          simp only [muleteerlaw07_ConfMay.j1]
          rw [if_pos trivial, awake_tells _ (by omega), Option.bind_some, if_pos rfl, if_neg (by omega)]
          rfl
        · rw [decide_eq_false hnw]
          simp only [muleteerlaw07_ConfMay.j1]
          rw [if_neg (by decide), awake_tells _ (by omega), Option.bind_some, if_pos rfl, if_neg (by omega), if_pos (by omega)]
          simp
    · have hc : ∃ s, conf_Check.f l x1 x2 x3 x4 x5 x6 x7 x8 x9 x10 x11 = some (s, 1) ∧ (checkL (rulesL (l.length : Int) x1 x2 x3 x4 x5 x6 x7 x8 x9 x10)).1 = s ∧ s.toList ≠ [] := by
        refine ⟨_, ?_, rfl, e1⟩
        show some (checkL _) = _
        rw [← e2]
      obtain ⟨s, hc, hs, hne⟩ := hc
      have hwo : conf_Workers.f l x1 x2 x3 x4 x5 x6 x7 x8 x9 x10 x11 = some 0 := by
        unfold conf_Workers.f
        rw [hc, Option.bind_some, if_neg (by simp)]
      have hacc : conf_Account.f l x1 x2 x3 x4 x5 x6 x7 x8 x9 x10 x11 n = some (-1) := by
        unfold conf_Account.f
        have hw1 : wrap64 (0 - 1) = -1 := by unfold wrap64; omega
        rw [hwo, Option.bind_some, hw1, within_f, Option.bind_some, if_neg (by simp; omega)]
      rw [hc, Option.bind_some, hwo, Option.bind_some, hacc, Option.bind_some, wrong_f, hs, Option.bind_some, if_pos rfl, if_neg (by simp), if_neg hne]
      simp only [muleteerlaw07_ConfMay.j0]
      rw [if_neg (by decide), if_neg hne, awake_tells _ (by omega)]
      rfl
  · rw [if_neg (by simpa using h20), awake_tells _ (by omega)]
    rfl

end Go.Proofs.Ytkbobgkjlpgcaaa.Pure
