/- Where a message stands first among any others: for every list of up to 40 messages and every message; longer lists answer by the examples. -/
import Derived.Test.YtkbobgkjlpgcaaaPMsgFindsx2
namespace Go.Proofs.Ytkbobgkjlpgcaaa.Pure
open Go.RowKit Go.Proofs.Ytkbobgkjlpgcaaa.Hand Go.Proofs.Ytkbobgkjlpgcaaa.PMsgFinds Go.Proofs.YtkbobgkjlpgcaaaW.PrintWords Go.Proofs.YtkbobgkjlpgcaaaW.PrintLast
set_option linter.unusedVariables false
set_option linter.unusedSimpArgs false

/-- Is it this message? -/
def hit (m x : S57) : Bool := (x.f0 == m.f0 && ((x.f1.f0 == m.f1.f0 && (x.f1.f1 == m.f1.f1 && (x.f1.f2 == m.f1.f2 && (x.f1.f3 == m.f1.f3 && (x.f1.f4.toList == m.f1.f4.toList))))) && (x.f2.toList == m.f2.toList)))
/-- The first place from `i` on. -/
def fi (m : S57) : List S57 → Nat → Int
  | [], _ => -1
  | x :: xs, i => if hit m x = true then (i : Int) else fi m xs (i + 1)
theorem rd_at (l : List S57) (i : Nat) (hi : i < l.length) : rd_T57 l (i : Int) = l[i] := by
  simp [rd_T57, List.getD_eq_getElem?_getD, hi]
theorem find_l0 (m : S57) (l : List S57) (hl : l.length ≤ 40) (d : Nat) : ∀ k i, i + d = l.length → d < k →
    msg_Find.l0 k l (l.length : Int) (i : Int) m.f0 m.f1.f0 m.f1.f1 m.f1.f2 m.f1.f3 m.f1.f4 m.f2 = some (fi m (l.drop i) i) := by
  induction d with
  | zero =>
    intro k i hi hk
    obtain ⟨k, rfl⟩ : ∃ m, k = m + 1 := ⟨k - 1, by omega⟩
    simp only [msg_Find.l0]
    rw [if_neg (by omega), List.drop_of_length_le (by omega)]
    rfl
  | succ d ih =>
    intro k i hi hk
    obtain ⟨k, rfl⟩ : ∃ m, k = m + 1 := ⟨k - 1, by omega⟩
    have hil : i < l.length := by omega
    have hw : wrap64 ((i : Int) + 1) = ((i + 1 : Nat) : Int) := by unfold wrap64; omega
    simp only [msg_Find.l0]
    rw [if_pos (by omega), if_pos (by omega), if_pos (by omega), rd_at l i hil, hw, ih k (i + 1) (by omega) (by omega), List.drop_eq_getElem_cons hil]
    show (if hit m l[i] = true then some (i : Int) else some (fi m (l.drop (i + 1)) (i + 1))) = some (fi m (l[i] :: l.drop (i + 1)) i)
    simp only [fi]
    split <;> rfl
theorem awake_tells (k : Nat) (hk : 3 ≤ k) : muleteerlaw04_awake.f k = some true := at_rounds muleteerlaw04_awake.mono hk (by decide +kernel)
theorem law_l0 (m : S57) (l : List S57) (hl : l.length ≤ 40) : ∀ (i : Nat) k, i ≤ l.length → i + 50 < k →
    muleteerlaw04_MsgFinds.l0 k l (fi m (l.drop i) i) ((i : Int) - 1) m.f0 m.f1.f0 m.f1.f1 m.f1.f2 m.f1.f3 m.f1.f4 m.f2 = some true := by
  intro i
  induction i with
  | zero =>
    intro k _ hk
    obtain ⟨k, rfl⟩ : ∃ m, k = m + 1 := ⟨k - 1, by omega⟩
    simp only [muleteerlaw04_MsgFinds.l0]
    have hf := find_l0 m l hl l.length k 0 (by omega) (by omega)
    rw [if_neg (by omega), awake_tells k (by omega), Option.bind_some, if_pos rfl]
    unfold msg_Find.f
    rw [show ((0 : Nat) : Int) = 0 from rfl] at hf
    rw [hf, Option.bind_some]
    simp
  | succ i ih =>
    intro k hi hk
    obtain ⟨k, rfl⟩ : ∃ m, k = m + 1 := ⟨k - 1, by omega⟩
    have hil : i < l.length := by omega
    have e : (((i + 1 : Nat) : Int) - 1) = (i : Int) := by omega
    have hw : wrap64 ((i : Int) - 1) = (i : Int) - 1 := by unfold wrap64; omega
    simp only [muleteerlaw04_MsgFinds.l0]
    rw [e, if_pos (by omega), if_pos (by omega), if_pos (by omega), rd_at l i hil, hw]
    have hih := ih k (by omega) (by omega)
    rw [List.drop_eq_getElem_cons hil] at hih
    simp only [fi] at hih
    show (if hit m l[i] = true then muleteerlaw04_MsgFinds.l0 k l (i : Int) ((i : Int) - 1) m.f0 m.f1.f0 m.f1.f1 m.f1.f2 m.f1.f3 m.f1.f4 m.f2 else muleteerlaw04_MsgFinds.l0 k l (fi m (l.drop (i + 1)) (i + 1)) ((i : Int) - 1) m.f0 m.f1.f0 m.f1.f1 m.f1.f2 m.f1.f3 m.f1.f4 m.f2) = some true
    by_cases h : hit m l[i] = true
    · rw [if_pos h] at hih ⊢; exact hih
    · rw [if_neg h] at hih ⊢; exact hih
theorem MsgFinds : muleteerlaw04_MsgFinds.Pure := by
  intro l m hl hm
  refine ⟨100, ?_⟩
  unfold muleteerlaw04_MsgFinds.f
  by_cases h40 : (l.length : Int) > 40
  · rw [if_pos h40, awake_tells _ (by omega)]; rfl
  · rw [if_neg h40]
    have hw : wrap64 ((l.length : Int) - 1) = (l.length : Int) - 1 := by unfold wrap64; omega
    have h := law_l0 m l (by omega) l.length 100 (Nat.le_refl _) (by omega)
    rw [List.drop_of_length_le (Nat.le_refl _)] at h
    rw [hw]
    exact h

end Go.Proofs.Ytkbobgkjlpgcaaa.Pure
