/- Whether each window of a row has all who can, and who is missing: for every two lists of up to 100 numbers and any length; longer ones answer by the example. -/
import Derived.Test.YthbjbjlfliogmaaPPicksFairx2
namespace Go.Proofs.Ythbjbjlfliogmaa.Pure
open Go.RowKit Go.Proofs.Ythbjbjlfliogmaa.Hand Go.Proofs.Ythbjbjlfliogmaa.PPicksFair Go.Proofs.YthbjbjlfliogmaaW.PrintWords Go.Proofs.YthbjbjlfliogmaaW.PrintLast
set_option linter.unusedVariables false
set_option linter.unusedSimpArgs false

theorem wf64 {n : Int} (h : (Lit.int .i64 n).wf = true) : -9223372036854775808 ≤ n ∧ n ≤ 9223372036854775807 := by
  have hmin : IntKind.i64.min = -9223372036854775808 := rfl
  have hmax : IntKind.i64.max = 9223372036854775807 := rfl
  simp only [Lit.wf, Bool.and_eq_true, decide_eq_true_eq] at h
  omega
theorem wfu {n : Int} (h : (Lit.int .u64 n).wf = true) : 0 ≤ n ∧ n < 18446744073709551616 := by
  have hmin : IntKind.u64.min = 0 := rfl
  have hmax : IntKind.u64.max = 18446744073709551615 := rfl
  simp only [Lit.wf, Bool.and_eq_true, decide_eq_true_eq] at h
  omega
theorem rd_get (l : List Int) (i : Nat) (h : i < l.length) : rd l (i : Int) = l[i] := by
  simp [rd, List.getD_eq_getElem?_getD, h]
theorem w1 (i : Nat) (h : i ≤ 1000) : wrap64 ((i : Int) + 1) = ((i + 1 : Nat) : Int) := by unfold wrap64; omega
theorem wrap_nat (n : Nat) (h : n < 9223372036854775808) : wrap64 (n : Int) = (n : Int) := by unfold wrap64; omega
/-- Who is missing, and whether each window has all. -/
def missF (row who : List Int) : List Int := who.filter (fun x => !decide (x ∈ row))
def fairF : Nat → List Int → List Int → Nat → Bool
  | 0, _, _, _ => true
  | j + 1, l, who, n => if l.length < n then true else if 0 < (missF (l.take n) who).length then false else fairF j (l.drop n) who n
theorem miss_f (row who : List Int) (h : row.length ≤ 1000) (h1 : who.length ≤ 1000) : picks_Missing.f row who = some (missF row who) := by
  unfold picks_Missing.f
  rw [if_pos ⟨by omega, by omega⟩]; rfl
theorem fair_l0 (who : List Int) (n : Nat) (hn : 1 ≤ n) (hw : who.length ≤ 1000) : ∀ j (l : List Int) k, l.length ≤ 1000 → l.length < j → j < k → picks_Fair.l0 k l who (n : Int) = some (fairF j l who n) := by
  intro j
  induction j with
  | zero => intro l k _ h; omega
  | succ j ih =>
    intro l k hl hj hk
    obtain ⟨k, rfl⟩ : ∃ q, k = q + 1 := ⟨k - 1, by omega⟩
    rw [picks_Fair.l0, fairF]
    by_cases h : l.length < n
    · rw [if_neg (by omega), if_pos h]
    · rw [if_pos (by omega), if_pos (by omega), if_pos (by omega), if_neg h, Int.toNat_natCast, miss_f _ _ (by rw [List.length_take]; omega) hw, Option.bind_some]
      by_cases h2 : 0 < (missF (l.take n) who).length
      · rw [if_pos (by omega), if_pos h2]
      · rw [if_neg (by omega), if_neg h2]
        exact ih (l.drop n) k (by rw [List.length_drop]; omega) (by rw [List.length_drop]; omega) (by omega)
theorem fair_f (who : List Int) (n : Nat) (hn : 1 ≤ n) (hw : who.length ≤ 1000) (l : List Int) (k : Nat) (hl : l.length ≤ 1000) (hk : l.length + 1 < k) : picks_Fair.f k l who (n : Int) = some (fairF (l.length + 1) l who n) := by
  unfold picks_Fair.f
  rw [if_neg (by omega)]
  exact fair_l0 who n hn hw _ l k hl (by omega) hk

theorem awake_tells (k : Nat) (hk : 6 ≤ k) : muleteerlaw19_awake.f k = some true := at_rounds muleteerlaw19_awake.mono hk (by decide +kernel)
theorem same_l0 (l m : List Int) (hlm : l.length = m.length) (hs : l.length ≤ 1000) : ∀ j i k, i + j = l.length → j < k → muleteerref16_Same.l0 k l m (i : Int) = some (decide (l.drop i = m.drop i)) := by
  intro j
  induction j with
  | zero =>
    intro i k hi hk
    obtain ⟨k, rfl⟩ : ∃ q, k = q + 1 := ⟨k - 1, by omega⟩
    rw [muleteerref16_Same.l0, if_neg (by omega), List.drop_eq_nil_of_le (by omega), List.drop_eq_nil_of_le (by omega)]
    rfl
  | succ j ih =>
    intro i k hi hk
    obtain ⟨k, rfl⟩ : ∃ q, k = q + 1 := ⟨k - 1, by omega⟩
    have hil : i < l.length := by omega
    have him : i < m.length := by omega
    rw [muleteerref16_Same.l0, if_pos (by omega), if_pos (by omega), if_pos (by omega), rd_get l i hil, rd_get m i him, w1 i (by omega), ih (i + 1) k (by omega) (by omega)]
    have hd : (l.drop i = m.drop i) ↔ (l[i] = m[i] ∧ l.drop (i + 1) = m.drop (i + 1)) := by
      rw [List.drop_eq_getElem_cons hil, List.drop_eq_getElem_cons him]; exact List.cons_eq_cons
    by_cases e : l[i] = m[i]
    · rw [if_pos e]; exact congrArg some (decide_eq_decide.2 ⟨fun h => hd.2 ⟨e, h⟩, fun h => (hd.1 h).2⟩)
    · rw [if_neg e]; exact congrArg some (decide_eq_false (fun h => e (hd.1 h).1)).symm
theorem same_f (k : Nat) (l m : List Int) (hk : l.length < k) (hs : l.length ≤ 1000) : muleteerref16_Same.f k l m = some (decide (l = m)) := by
  unfold muleteerref16_Same.f
  by_cases h : l.length = m.length
  · rw [if_pos (by omega)]
    exact same_l0 l m h hs l.length 0 k (by omega) hk
  · rw [if_neg (by omega), decide_eq_false (fun e => h (by rw [e]))]
theorem in_l0 (l : List Int) (x : Int) (hs : l.length ≤ 1000) : ∀ j i k, i + j = l.length → j < k → muleteerref19_In.l0 k l x (i : Int) = some (decide (x ∈ l.drop i)) := by
  intro j
  induction j with
  | zero =>
    intro i k hi hk
    obtain ⟨k, rfl⟩ : ∃ q, k = q + 1 := ⟨k - 1, by omega⟩
    rw [muleteerref19_In.l0, if_neg (by omega), List.drop_eq_nil_of_le (by omega)]
    simp
  | succ j ih =>
    intro i k hi hk
    obtain ⟨k, rfl⟩ : ∃ q, k = q + 1 := ⟨k - 1, by omega⟩
    have hil : i < l.length := by omega
    rw [muleteerref19_In.l0, if_pos (by omega), if_pos (by omega), rd_get l i hil, w1 i (by omega), ih (i + 1) k (by omega) (by omega), List.drop_eq_getElem_cons hil]
    by_cases e : l[i] = x
    · rw [if_pos e, e]; simp
    · rw [if_neg e]; exact congrArg some (decide_eq_decide.2 ⟨fun h => List.mem_cons_of_mem _ h, fun h => (List.mem_cons.1 h).elim (fun h => absurd h.symm e) id⟩)
theorem rmiss_l0 (row who : List Int) (hr : row.length ≤ 1000) (hw : who.length ≤ 1000) : ∀ j i k, i + j = who.length → j + 1001 < k → muleteerref19_Missing.l0 k row who (missF row (who.take i)) (i : Int) = some (missF row who) := by
  intro j
  induction j with
  | zero =>
    intro i k hi hk
    obtain ⟨k, rfl⟩ : ∃ q, k = q + 1 := ⟨k - 1, by omega⟩
    rw [muleteerref19_Missing.l0, if_neg (by omega), List.take_of_length_le (by omega)]
  | succ j ih =>
    intro i k hi hk
    obtain ⟨k, rfl⟩ : ∃ q, k = q + 1 := ⟨k - 1, by omega⟩
    have hil : i < who.length := by omega
    have hin : muleteerref19_In.f k row who[i] = some (decide (who[i] ∈ row)) := in_l0 row _ hr row.length 0 k (by omega) (by omega)
    have hnx := ih (i + 1) k (by omega) (by omega)
    have hle : (missF row (who.take i)).length ≤ (who.take i).length := List.length_filter_le _ _
    rw [List.length_take] at hle
    rw [muleteerref19_Missing.l0, if_pos (by omega), if_pos (by omega), rd_get who i hil, hin, Option.bind_some, w1 i (by omega)]
    have ht : missF row (who.take (i + 1)) = missF row (who.take i) ++ (if who[i] ∈ row then [] else [who[i]]) := by
      unfold missF
      rw [List.take_succ_eq_append_getElem hil, List.filter_append]
      by_cases e : who[i] ∈ row
      · rw [if_pos e]; simp [e]
      · rw [if_neg e]; simp [e]
    rw [ht] at hnx
    by_cases e : who[i] ∈ row
    · rw [if_pos e, List.append_nil] at hnx
      rw [if_pos (by simpa using e)]; exact hnx
    · rw [if_neg e] at hnx
      rw [if_neg (by simpa using e), if_pos (by omega)]; exact hnx
theorem rmiss_f (row who : List Int) (hr : row.length ≤ 1000) (hw : who.length ≤ 1000) (k : Nat) (hk : 2002 < k) : muleteerref19_Missing.f k row who = some (missF row who) :=
  rmiss_l0 row who hr hw who.length 0 k (by omega) (by omega)
theorem rfair_l0 (l who : List Int) (n : Nat) (hn : 1 ≤ n) (hnl : n ≤ l.length) (hl : l.length ≤ 1000) (hw : who.length ≤ 1000) : ∀ j at' k, at' ≤ l.length → l.length - at' < j → j + 2003 < k → muleteerref19_Fair.l0 k l who (n : Int) (at' : Int) = some (fairF j (l.drop at') who n) := by
  intro j
  induction j with
  | zero => intro at' k _ h; omega
  | succ j ih =>
    intro at' k ha hj hk
    obtain ⟨k, rfl⟩ : ∃ q, k = q + 1 := ⟨k - 1, by omega⟩
    have e1 : wrap64 ((l.length : Int) - (n : Int)) = ((l.length - n : Nat) : Int) := by unfold wrap64; omega
    have e2 : wrap64 ((at' : Int) + (n : Int)) = ((at' + n : Nat) : Int) := by unfold wrap64; omega
    rw [muleteerref19_Fair.l0, fairF, e1, e2, List.length_drop]
    by_cases h : l.length - at' < n
    · rw [if_neg (by omega), if_pos h]
    · have e3 : (l.take (((at' + n : Nat) : Int)).toNat).drop ((at' : Int)).toNat = (l.drop at').take n := by
        rw [Int.toNat_natCast, Int.toNat_natCast, List.drop_take]; congr 1; omega
      rw [if_pos (by omega), if_pos (by omega), if_pos (by omega), if_pos (by omega), if_neg h, e3, rmiss_f _ _ (by rw [List.length_take]; omega) hw k (by omega), Option.bind_some]
      by_cases h2 : 0 < (missF ((l.drop at').take n) who).length
      · rw [if_pos (by omega), if_pos h2]
      · rw [if_neg (by omega), if_neg h2, List.drop_drop]
        exact ih (at' + n) k (by omega) (by omega) (by omega)
theorem PicksFair : muleteerlaw19_PicksFair.Pure := by
  intro l who a2 _ _ _ _ _ _ ha
  have ha := wf64 ha
  refine ⟨3001, ?_⟩
  unfold muleteerlaw19_PicksFair.f
  by_cases h : l.length ≤ 100 ∧ who.length ≤ 100
  · have hm := miss_f l who (by omega) (by omega)
    have hrm := rmiss_f l who (by omega) (by omega) 3000 (by omega)
    have hle : (missF l who).length ≤ who.length := List.length_filter_le _ _
    rw [if_neg (by omega), decide_eq_false (by omega), muleteerlaw19_PicksFair.j0, if_neg (by decide), hm, Option.bind_some, hrm, Option.bind_some, same_f 3000 _ _ (by omega) (by omega), Option.bind_some, if_pos (by simp)]
    by_cases h1 : a2 < 1
    · have : picks_Fair.f 3000 l who a2 = some false := by unfold picks_Fair.f; rw [if_pos h1]
      rw [this, Option.bind_some, if_pos h1, awake_tells _ (by omega), Option.bind_some, if_pos rfl]
      rfl
    · obtain ⟨n, rfl⟩ := Int.eq_ofNat_of_zero_le (show 0 ≤ a2 by omega)
      rw [fair_f who n (by omega) (by omega) l 3000 (by omega) (by omega), Option.bind_some, if_neg h1, awake_tells _ (by omega), Option.bind_some, if_pos rfl]
      have hr : muleteerref19_Fair.f 3000 l who (n : Int) = some (fairF (l.length + 1) l who n) := by
        unfold muleteerref19_Fair.f
        by_cases h2 : l.length < n
        · rw [if_pos (by omega), fairF, if_pos h2]
        · rw [if_neg (by omega)]
          exact rfair_l0 l who n (by omega) (by omega) (by omega) (by omega) (l.length + 1) 0 3000 (by omega) (by omega) (by omega)
      rw [hr, Option.bind_some]
      cases fairF (l.length + 1) l who n <;> rfl
  · have hj : muleteerlaw19_PicksFair.j0 3001 l who a2 true = some true := by
      rw [muleteerlaw19_PicksFair.j0, if_pos rfl, awake_tells _ (by omega), Option.bind_some]
    by_cases h0 : (l.length : Int) > 100
    · rw [if_pos h0, hj]
    · rw [if_neg h0, decide_eq_true (by omega), hj]

end Go.Proofs.Ythbjbjlfliogmaa.Pure
