/- What the functions on messages answer, in plain words. -/
import Derived.Test.YtegaadahogjeiaaPBatchPlaysx2
import Derived.Test.YtegaadahogjeiaaPBatchPlaysx3
namespace Go.Proofs.Ytegaadahogjeiaa.Hand
open Go.RowKit Go.Proofs.Ytegaadahogjeiaa.PBatchPlays Go.Proofs.YtegaadahogjeiaaW.PrintWords Go.Proofs.YtegaadahogjeiaaW.PrintLast
set_option linter.unusedVariables false
set_option linter.unusedSimpArgs false
/-- Is it this message? -/
def hit (m x : S37) : Bool := (x.f0 == m.f0 && ((x.f1.f0 == m.f1.f0 && (x.f1.f1 == m.f1.f1 && (x.f1.f2 == m.f1.f2 && (x.f1.f3 == m.f1.f3 && (x.f1.f4.toList == m.f1.f4.toList))))) && (x.f2.toList == m.f2.toList)))
/-- The first place from i on. -/
def fi (m : S37) : List S37 → Nat → Int
  | [], _ => -1
  | x :: xs, i => if hit m x = true then (i : Int) else fi m xs (i + 1)
def hasM (l : List S37) (m : S37) : Bool := l.any (hit m)
theorem fi_has (m : S37) : ∀ (l : List S37) (i : Nat), decide (0 ≤ fi m l i) = hasM l m
  | [], i => rfl
  | x :: xs, i => by
    rw [fi, hasM, List.any_cons]
    by_cases h : hit m x = true
    · rw [if_pos h, h, Bool.true_or]
      exact decide_eq_true (by omega)
    · rw [if_neg h, Bool.eq_false_iff.2 h, Bool.false_or]
      exact fi_has m xs (i + 1)
theorem rdT_at (l : List S37) (i : Nat) (hi : i < l.length) : rd_T37 l (i : Int) = l[i] := by
  simp [rd_T37, List.getD_eq_getElem?_getD, hi]
theorem find_l0 (m : S37) (l : List S37) (hl : l.length ≤ 100) (d : Nat) : ∀ k i, i + d = l.length → d < k →
    msg_Find.l0 k l (l.length : Int) (i : Int) m.f0 m.f1.f0 m.f1.f1 m.f1.f2 m.f1.f3 m.f1.f4 m.f2 = some (fi m (l.drop i) i) := by
  induction d with
  | zero =>
    intro k i hi hk
    obtain ⟨k, rfl⟩ : ∃ m, k = m + 1 := ⟨k - 1, by omega⟩
    simp only [msg_Find.l0]
    rw [if_neg (by omega), List.drop_of_length_le (by omega)]
    rfl
  | succ d ih =>
    intro k i hi hk
    obtain ⟨k, rfl⟩ : ∃ m, k = m + 1 := ⟨k - 1, by omega⟩
    have hil : i < l.length := by omega
    have hw : wrap64 ((i : Int) + 1) = ((i + 1 : Nat) : Int) := by unfold wrap64; omega
    simp only [msg_Find.l0]
    rw [if_pos (by omega), if_pos (by omega), if_pos (by omega), rdT_at l i hil, hw, ih k (i + 1) (by omega) (by omega), List.drop_eq_getElem_cons hil]
    show (if hit m l[i] = true then some (i : Int) else some (fi m (l.drop (i + 1)) (i + 1))) = some (fi m (l[i] :: l.drop (i + 1)) i)
    simp only [fi]
    split <;> rfl
theorem find_all (m : S37) (l : List S37) (hl : l.length ≤ 100) : msg_Find.f 200 l m.f0 m.f1.f0 m.f1.f1 m.f1.f2 m.f1.f3 m.f1.f4 m.f2 = some (fi m l 0) :=
  find_l0 m l hl l.length 200 0 (by omega) (by omega)
/-- Is a packet right? -/
def pk (a b : Int) (e : ByteArray) : Bool := decide (0 ≤ a ∧ a < 4 ∧ (b = 0 ∨ b = 1) ∧ e.size ≤ 64)
theorem pk_prog (a b c d : Int) (e : ByteArray) : packet_Right.f a b c d e = some (pk a b e) := by
  unfold packet_Right.f pk
  by_cases h1 : a ≥ 0
  · rw [if_pos h1]
    by_cases h2 : a < 4
    · rw [if_pos h2]
      by_cases h3 : b = 0
      · rw [if_pos h3]
        exact congrArg some (decide_eq_decide.2 (by omega))
      · rw [if_neg h3]
        by_cases h4 : b = 1
        · rw [if_pos h4]
          exact congrArg some (decide_eq_decide.2 (by omega))
        · rw [if_neg h4]
          exact congrArg some (decide_eq_false (by omega)).symm
    · rw [if_neg h2]
      exact congrArg some (decide_eq_false (by omega)).symm
  · rw [if_neg h1]
    exact congrArg some (decide_eq_false (by omega)).symm
theorem pk_ref (a b c d : Int) (e : ByteArray) : muleteerref03_Right.f a b c d e = some (pk a b e) := by
  unfold muleteerref03_Right.f pk
  by_cases h1 : a ≥ 0
  · rw [if_pos h1]
    by_cases h2 : a ≤ 3
    · rw [if_pos h2]
      by_cases h3 : b ≥ 0
      · rw [if_pos h3]
        by_cases h4 : b ≤ 1
        · rw [if_pos h4]
          exact congrArg some (decide_eq_decide.2 (by omega))
        · rw [if_neg h4]
          exact congrArg some (decide_eq_false (by omega)).symm
      · rw [if_neg h3]
        exact congrArg some (decide_eq_false (by omega)).symm
    · rw [if_neg h2]
      exact congrArg some (decide_eq_false (by omega)).symm
  · rw [if_neg h1]
    exact congrArg some (decide_eq_false (by omega)).symm
/-- Is a message right? -/
def rightM (m : S37) : Bool :=
  pk m.f1.f0 m.f1.f1 m.f1.f4 && (decide (m.f2.size ≤ 64) && (if m.f0 = 1 then decide (m.f1.f2 = 0) && decide (m.f2.toList = []) else if m.f0 = 2 then decide (m.f2.toList = []) else if m.f0 = 4 then decide (m.f2.toList = []) else decide (m.f0 = 3)))
theorem right_prog (m : S37) : msg_Right.f 5 m.f0 m.f1.f0 m.f1.f1 m.f1.f2 m.f1.f3 m.f1.f4 m.f2 = some (rightM m) := by
  obtain ⟨k, ⟨c, fr, sq, tm, dt⟩, ak⟩ := m
  have key : msg_Right.f 5 k c fr sq tm dt ak = some (rightM ⟨k, ⟨c, fr, sq, tm, dt⟩, ak⟩) := by
    rw [msg_Right.f, pk_prog, Option.bind_some, rightM]
    dsimp only
    cases hp : pk c fr dt
    · rw [if_neg (by decide), msg_Right.j0, if_pos rfl, Bool.false_and]
    · rw [if_pos rfl, msg_Right.j0, Bool.true_and]
      by_cases h1 : ak.size ≤ 64
      · have h2 : ¬ decide ((ak.size : Int) > 64) = true := by simp; omega
        rw [if_neg h2, decide_eq_true h1, Bool.true_and]
        by_cases e1 : k = 1
        · rw [if_pos e1, if_pos e1]
          by_cases e2 : sq = 0
          · rw [if_pos e2, decide_eq_true e2, Bool.true_and]
            by_cases e3 : ak.toList = [] <;> simp [e3]
          · rw [if_neg e2, decide_eq_false e2, Bool.false_and]
        · rw [if_neg e1, if_neg e1]
          by_cases e2 : k = 2
          · rw [if_pos e2, if_pos e2, msg_Right.j1, if_pos (by simp [e2])]
            by_cases e3 : ak.toList = [] <;> simp [e3]
          · rw [if_neg e2, if_neg e2]
            by_cases e4 : k = 4
            · rw [if_pos e4, msg_Right.j1, if_pos (by simp [e4])]
              by_cases e3 : ak.toList = [] <;> simp [e3]
            · rw [if_neg e4, msg_Right.j1, if_neg (by simp [e4])]
              by_cases e3 : k = 3 <;> simp [e3]
      · have h2 : decide ((ak.size : Int) > 64) = true := by simp; omega
        rw [if_pos h2, decide_eq_false h1, Bool.false_and]
  exact key
theorem right_ref (m : S37) : muleteerref04_Right.f m.f0 m.f1.f0 m.f1.f1 m.f1.f2 m.f1.f3 m.f1.f4 m.f2 = some (rightM m) := by
  obtain ⟨k, ⟨c, fr, sq, tm, dt⟩, ak⟩ := m
  have key : muleteerref04_Right.f k c fr sq tm dt ak = some (rightM ⟨k, ⟨c, fr, sq, tm, dt⟩, ak⟩) := by
    rw [muleteerref04_Right.f, pk_ref, rightM]
    dsimp only
    by_cases h0 : k < 1
    · rw [if_pos h0, if_neg (by omega), if_neg (by omega), if_neg (by omega), decide_eq_false (show ¬ k = 3 by omega), Bool.and_false, Bool.and_false]
    · rw [if_neg h0]
      by_cases h4 : k > 4
      · rw [if_pos h4, if_neg (by omega), if_neg (by omega), if_neg (by omega), decide_eq_false (show ¬ k = 3 by omega), Bool.and_false, Bool.and_false]
      · rw [if_neg h4, Option.bind_some]
        cases hp : pk c fr dt
        · rw [if_neg (by decide), Bool.false_and]
        · rw [if_pos rfl, Bool.true_and]
          by_cases h1 : ak.size ≤ 64
          · have h2 : ¬ ((ak.size : Int) > 64) := by omega
            rw [if_neg h2, decide_eq_true h1, Bool.true_and]
            by_cases e3 : k = 3
            · subst e3
              simp
            · rw [if_neg e3]
              by_cases e5 : ak.toList = []
              · rw [if_pos e5, decide_eq_true e5, Bool.and_true]
                by_cases e1 : k = 1
                · rw [if_pos e1, if_pos e1]
                  by_cases e2 : sq = 0 <;> simp [e2]
                · rw [if_neg e1, if_neg e1]
                  by_cases e2 : k = 2
                  · rw [if_pos e2]
                  · rw [if_neg e2, if_pos (by omega)]
              · rw [if_neg e5, decide_eq_false e5, Bool.and_false]
                by_cases e1 : k = 1
                · rw [if_pos e1]
                · rw [if_neg e1]
                  by_cases e2 : k = 2
                  · rw [if_pos e2]
                  · rw [if_neg e2, if_pos (by omega)]
          · have h2 : ((ak.size : Int) > 64) := by omega
            rw [if_pos h2, decide_eq_false h1, Bool.false_and]
  exact key
/-- Are two lists of messages the same? -/
theorem same_l0 (l : List S37) (hl : l.length ≤ 1000) : ∀ (m k j : Nat), j + m = l.length → m + 1 ≤ k → muleteerref05_SameMsgs.l0 k l l (j : Int) = some true
  | 0, k + 1, j, hj, hk => by rw [muleteerref05_SameMsgs.l0, if_neg (by omega)]
  | m + 1, k + 1, j, hj, hk => by
    have hw : wrap64 ((j : Int) + 1) = ((j + 1 : Nat) : Int) := by unfold wrap64; omega
    rw [muleteerref05_SameMsgs.l0, if_pos (by omega), if_pos (by omega), if_pos (by omega), hw, same_l0 l hl m k (j + 1) (by omega) (by omega)]
    simp
theorem same_all (l : List S37) (hl : l.length ≤ 1000) : muleteerref05_SameMsgs.f (l.length + 1) l l = some true := by
  rw [muleteerref05_SameMsgs.f, if_pos rfl]
  exact same_l0 l hl l.length _ 0 (by omega) (Nat.le_refl _)
/-- Is one message of a size that is gone through? -/
def fewM (m : S37) : Bool := decide (m.f1.f4.size ≤ 200) && decide (m.f2.size ≤ 200)
theorem few_one (m : S37) : muleteerlaw27_few.f 3 [m] = some (fewM m) := by
  obtain ⟨k, ⟨c, fr, sq, tm, dt⟩, ak⟩ := m
  rw [muleteerlaw27_few.f, muleteerlaw27_few.l0, fewM]
  dsimp only
  have hw : wrap64 ((0 : Int) + 1) = 1 := by unfold wrap64; omega
  rw [hw]
  simp only [muleteerlaw27_few.l0, List.length_singleton]
  simp [rd_T37]
  by_cases h1 : (200 : Int) < (dt.size : Int)
  · rw [if_pos h1, decide_eq_false (show ¬ dt.size ≤ 200 by omega), Bool.false_and]
  · rw [if_neg h1, decide_eq_true (show dt.size ≤ 200 by omega), Bool.true_and]
    by_cases h2 : (200 : Int) < (ak.size : Int)
    · rw [if_pos h2, decide_eq_false (show ¬ ak.size ≤ 200 by omega)]
    · rw [if_neg h2, decide_eq_true (show ak.size ≤ 200 by omega)]
/-- The two ways to tell whether a batch is due. -/
theorem due_eq (now first wait : Int) (h0 : 0 ≤ now) (h1 : now < 18446744073709551616) (h2 : 0 ≤ first) (h3 : first < 18446744073709551616) (h4 : 0 ≤ wait) (h5 : wait ≤ 8) :
    decide (wait ≤ IntKind.u64.wrap (max now first - first)) = (decide (wait = 0) || (decide (first < now) && decide (wait ≤ IntKind.u64.wrap (now - first)))) := by
  have e1 : IntKind.u64.wrap (max now first - first) = max now first - first := by rw [IntKind.wrap_u64]; omega
  rw [e1]
  by_cases hf : first < now
  · have e2 : IntKind.u64.wrap (now - first) = now - first := by rw [IntKind.wrap_u64]; omega
    rw [e2, decide_eq_true hf, Bool.true_and]
    by_cases hw : wait = 0
    · simp only [hw, decide_true, Bool.true_or]
      exact decide_eq_true (by omega)
    · rw [decide_eq_false hw, Bool.false_or]
      exact decide_eq_decide.2 (by omega)
  · rw [decide_eq_false hf, Bool.false_and, Bool.or_false]
    exact decide_eq_decide.2 (by omega)
end Go.Proofs.Ytegaadahogjeiaa.Hand
