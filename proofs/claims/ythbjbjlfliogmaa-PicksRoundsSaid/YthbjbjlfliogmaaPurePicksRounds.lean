/- A row that is made of orders is fair, in windows of their length: for every number and every list of up to 20 numbers; longer ones answer by the example. -/
import Derived.Test.YthbjbjlfliogmaaPPicksRoundsx1
namespace Go.Proofs.Ythbjbjlfliogmaa.Pure
open Go.RowKit Go.Proofs.Ythbjbjlfliogmaa.Hand Go.Proofs.Ythbjbjlfliogmaa.PPicksRounds Go.Proofs.YthbjbjlfliogmaaW.PrintWords Go.Proofs.YthbjbjlfliogmaaW.PrintLast
set_option linter.unusedVariables false
set_option linter.unusedSimpArgs false

theorem wf64 {n : Int} (h : (Lit.int .i64 n).wf = true) : -9223372036854775808 ≤ n ∧ n ≤ 9223372036854775807 := by
  have hmin : IntKind.i64.min = -9223372036854775808 := rfl
  have hmax : IntKind.i64.max = 9223372036854775807 := rfl
  simp only [Lit.wf, Bool.and_eq_true, decide_eq_true_eq] at h
  omega
theorem wfu {n : Int} (h : (Lit.int .u64 n).wf = true) : 0 ≤ n ∧ n < 18446744073709551616 := by
  have hmin : IntKind.u64.min = 0 := rfl
  have hmax : IntKind.u64.max = 18446744073709551615 := rfl
  simp only [Lit.wf, Bool.and_eq_true, decide_eq_true_eq] at h
  omega
theorem rd_get (l : List Int) (i : Nat) (h : i < l.length) : rd l (i : Int) = l[i] := by
  simp [rd, List.getD_eq_getElem?_getD, h]
theorem w1 (i : Nat) (h : i ≤ 1000) : wrap64 ((i : Int) + 1) = ((i + 1 : Nat) : Int) := by unfold wrap64; omega
theorem wrap_nat (n : Nat) (h : n < 9223372036854775808) : wrap64 (n : Int) = (n : Int) := by unfold wrap64; omega
/-- Who is missing, and whether each window has all. -/
def missF (row who : List Int) : List Int := who.filter (fun x => !decide (x ∈ row))
def fairF : Nat → List Int → List Int → Nat → Bool
  | 0, _, _, _ => true
  | j + 1, l, who, n => if l.length < n then true else if 0 < (missF (l.take n) who).length then false else fairF j (l.drop n) who n
theorem miss_f (row who : List Int) (h : row.length ≤ 1000) (h1 : who.length ≤ 1000) : picks_Missing.f row who = some (missF row who) := by
  unfold picks_Missing.f
  rw [if_pos ⟨by omega, by omega⟩]; rfl
theorem fair_l0 (who : List Int) (n : Nat) (hn : 1 ≤ n) (hw : who.length ≤ 1000) : ∀ j (l : List Int) k, l.length ≤ 1000 → l.length < j → j < k → picks_Fair.l0 k l who (n : Int) = some (fairF j l who n) := by
  intro j
  induction j with
  | zero => intro l k _ h; omega
  | succ j ih =>
    intro l k hl hj hk
    obtain ⟨k, rfl⟩ : ∃ q, k = q + 1 := ⟨k - 1, by omega⟩
    rw [picks_Fair.l0, fairF]
    by_cases h : l.length < n
    · rw [if_neg (by omega), if_pos h]
    · rw [if_pos (by omega), if_pos (by omega), if_pos (by omega), if_neg h, Int.toNat_natCast, miss_f _ _ (by rw [List.length_take]; omega) hw, Option.bind_some]
      by_cases h2 : 0 < (missF (l.take n) who).length
      · rw [if_pos (by omega), if_pos h2]
      · rw [if_neg (by omega), if_neg h2]
        exact ih (l.drop n) k (by rw [List.length_drop]; omega) (by rw [List.length_drop]; omega) (by omega)
theorem fair_f (who : List Int) (n : Nat) (hn : 1 ≤ n) (hw : who.length ≤ 1000) (l : List Int) (k : Nat) (hl : l.length ≤ 1000) (hk : l.length + 1 < k) : picks_Fair.f k l who (n : Int) = some (fairF (l.length + 1) l who n) := by
  unfold picks_Fair.f
  rw [if_neg (by omega)]
  exact fair_l0 who n hn hw _ l k hl (by omega) hk

theorem awake_tells (k : Nat) (hk : 6 ≤ k) : muleteerlaw19_awake.f k = some true := at_rounds muleteerlaw19_awake.mono hk (by decide +kernel)
theorem upTo_sorted (n : Nat) : (upTo n).Pairwise (· < ·) := by
  unfold upTo
  rw [List.pairwise_map]
  exact (List.pairwise_lt_range).imp (fun h => by omega)
theorem perm_eraseIdx : ∀ (S : List Int) (t : Nat) (ht : t < S.length), S.Perm (S[t] :: S.eraseIdx t)
  | [], t, ht => by simp at ht
  | s :: S, 0, _ => List.Perm.refl _
  | s :: S, t + 1, ht => ((perm_eraseIdx S t (by simpa using ht)).cons s).trans (List.Perm.swap _ _ _)
theorem orderF_length : ∀ m L q, (orderF m L q).length = m
  | 0, _, _ => rfl
  | m + 1, L, q => by simp only [orderF, List.length_cons, orderF_length m]
theorem order_perm : ∀ (m : Nat) (S : List Int) (q : Nat), S.length = m → q < factN m → (orderF m S q).Perm S
  | 0, S, q, hl, hq => by
    obtain rfl : S = [] := List.eq_nil_of_length_eq_zero hl
    exact List.Perm.refl _
  | m + 1, S, q, hl, hq => by
    have hpos := factN_pos m
    have ht : q / factN m < m + 1 := (Nat.div_lt_iff_lt_mul hpos).2 (by rw [Nat.mul_comm]; exact hq)
    have hmod := Nat.mod_lt q hpos
    simp only [orderF]
    obtain ⟨t, ht2⟩ : ∃ t, q / factN m = t := ⟨_, rfl⟩
    rw [ht2] at ht ⊢
    have htl : t < S.length := by omega
    have ih1 := order_perm m (S.eraseIdx t) (q % factN m) (by rw [List.length_eraseIdx, if_pos htl]; omega) hmod
    rw [List.getD_eq_getElem?_getD, List.getElem?_eq_getElem htl, Option.getD_some]
    exact (ih1.cons _).trans (perm_eraseIdx S t htl).symm
theorem order_nat (n q : Nat) (hn : n ≤ 12) (hq : q < 18446744073709551616) : picks_Order.f (n : Int) (q : Int) = some (orderF n (upTo n) (q % factN n)) := by
  unfold picks_Order.f
  rw [if_pos (by omega), if_pos (by omega), Int.toNat_natCast, Int.toNat_natCast]
/-- The row that is made of orders. -/
def rowF (n : Nat) (l : List Int) : List Int := l.flatMap (fun q => orderF n (upTo n) (q.toNat % factN n))
theorem rowF_length (n : Nat) : ∀ l : List Int, (rowF n l).length = n * l.length
  | [] => by simp [rowF]
  | q :: l => by
    have ih := rowF_length n l
    unfold rowF at ih ⊢
    rw [List.flatMap_cons, List.length_append, ih, orderF_length, List.length_cons, Nat.mul_succ, Nat.add_comm]
theorem miss_nil (row who : List Int) (h : ∀ x ∈ who, x ∈ row) : missF row who = [] := by
  unfold missF
  rw [List.filter_eq_nil_iff]
  intro a ha
  simp [h a ha]
theorem order_all (n : Nat) (q : Int) (x : Int) (hx : x ∈ upTo n) : x ∈ orderF n (upTo n) (q.toNat % factN n) :=
  (order_perm n (upTo n) _ (upTo_length n) (Nat.mod_lt _ (factN_pos n))).mem_iff.2 hx
theorem row_fair (n : Nat) (hn : 1 ≤ n) : ∀ (j : Nat) (l : List Int), fairF j (rowF n l) (upTo n) n = true
  | 0, _ => rfl
  | j + 1, [] => by rw [fairF, if_pos (by rw [rowF_length]; simp; omega)]
  | j + 1, q :: l => by
    have e : rowF n (q :: l) = orderF n (upTo n) (q.toNat % factN n) ++ rowF n l := by unfold rowF; rw [List.flatMap_cons]
    have hl := orderF_length n (upTo n) (q.toNat % factN n)
    rw [fairF, if_neg (by rw [rowF_length, List.length_cons, Nat.mul_succ]; omega), e, List.take_append_of_le_length (by omega), List.drop_append_of_le_length (by omega), List.take_of_length_le (by omega), List.drop_eq_nil_of_le (by omega), List.nil_append, miss_nil _ _ (fun x hx => order_all n q x hx), if_neg (by simp)]
    exact row_fair n hn j l
theorem rounds_l1 (n : Nat) (hn : 1 ≤ n) (hn12 : n ≤ 12) (l : List Int) (hl : l.length ≤ 20) (hw : ∀ x ∈ l, 0 ≤ x ∧ x < 18446744073709551616) : ∀ j i k, i + j = l.length → j + 300 < k → muleteerlaw19_PicksRounds.l1 k l (n : Int) (rowF n (l.take i)) (upTo n) (i : Int) = some true := by
  intro j
  induction j with
  | zero =>
    intro i k hi hk
    obtain ⟨k, rfl⟩ : ∃ q, k = q + 1 := ⟨k - 1, by omega⟩
    have hlen := rowF_length n l
    have hb : n * l.length ≤ 12 * 20 := Nat.mul_le_mul hn12 hl
    have e : wrap64 ((n : Int) * (l.length : Int)) = ((n * l.length : Nat) : Int) := by rw [← Int.natCast_mul]; exact wrap_nat _ (by omega)
    rw [muleteerlaw19_PicksRounds.l1, if_neg (by omega), List.take_of_length_le (by omega), awake_tells k (by omega), Option.bind_some, if_pos rfl, e, if_pos (by rw [hlen]), fair_f (upTo n) n hn (by rw [upTo_length]; omega) (rowF n l) k (by omega) (by omega), Option.bind_some, row_fair n hn, if_pos rfl]
    by_cases h0 : l.length = 0
    · rw [if_pos (by omega)]
    · rw [if_neg (by omega), miss_f _ _ (by omega) (by rw [upTo_length]; omega), Option.bind_some, miss_nil]
      · rfl
      · intro x hx
        obtain ⟨q, l', rfl⟩ : ∃ q l', l = q :: l' := by
          cases l with
          | nil => simp at h0
          | cons q l' => exact ⟨q, l', rfl⟩
        unfold rowF
        rw [List.flatMap_cons]
        exact List.mem_append_left _ (order_all n q x hx)
  | succ j ih =>
    intro i k hi hk
    obtain ⟨k, rfl⟩ : ∃ q, k = q + 1 := ⟨k - 1, by omega⟩
    have hil : i < l.length := by omega
    obtain ⟨h1, h2⟩ := hw l[i] (List.getElem_mem hil)
    have ho : picks_Order.f (n : Int) l[i] = some (orderF n (upTo n) (l[i].toNat % factN n)) := by
      have := order_nat n l[i].toNat hn12 (by omega)
      rwa [Int.toNat_of_nonneg h1] at this
    have hlen := rowF_length n (l.take i)
    rw [List.length_take, Nat.min_eq_left (by omega)] at hlen
    have hb : n * i ≤ 12 * 20 := Nat.mul_le_mul hn12 (by omega)
    have e : rowF n (l.take (i + 1)) = rowF n (l.take i) ++ orderF n (upTo n) (l[i].toNat % factN n) := by
      unfold rowF
      rw [List.take_succ_eq_append_getElem hil, List.flatMap_append, List.flatMap_cons, List.flatMap_nil, List.append_nil]
    have hnx := ih (i + 1) k (by omega) (by omega)
    rw [e] at hnx
    rw [muleteerlaw19_PicksRounds.l1, if_pos (by omega), if_pos (by omega), rd_get l i hil, ho, Option.bind_some, if_pos (by rw [orderF_length]; omega), w1 i (by omega)]
    exact hnx
theorem rounds_l0 (n : Nat) (hn : 1 ≤ n) (hn12 : n ≤ 12) (l : List Int) (hl : l.length ≤ 20) (hw : ∀ x ∈ l, 0 ≤ x ∧ x < 18446744073709551616) : ∀ j i k, i + j = n → j + 330 < k → muleteerlaw19_PicksRounds.l0 k l (n : Int) (upTo i) (i : Int) = some true := by
  intro j
  induction j with
  | zero =>
    intro i k hi hk
    obtain ⟨k, rfl⟩ : ∃ q, k = q + 1 := ⟨k - 1, by omega⟩
    obtain rfl : i = n := by omega
    rw [muleteerlaw19_PicksRounds.l0, if_neg (by omega)]
    exact rounds_l1 i hn hn12 l hl hw l.length 0 k (by omega) (by omega)
  | succ j ih =>
    intro i k hi hk
    obtain ⟨k, rfl⟩ : ∃ q, k = q + 1 := ⟨k - 1, by omega⟩
    rw [muleteerlaw19_PicksRounds.l0, if_pos (by omega), if_pos (by rw [upTo_length]; omega), w1 i (by omega), ← upTo_succ]
    exact ih (i + 1) k (by omega) (by omega)
theorem PicksRounds : muleteerlaw19_PicksRounds.Pure := by
  intro a0 l ha _ _ hw
  have ha0 : 0 ≤ a0 ∧ a0 ≤ 255 := by
    have hmin : IntKind.u8.min = 0 := rfl
    have hmax : IntKind.u8.max = 255 := rfl
    simp only [Lit.wf, Bool.and_eq_true, decide_eq_true_eq] at ha
    omega
  refine ⟨400, ?_⟩
  unfold muleteerlaw19_PicksRounds.f
  by_cases h : (l.length : Int) > 20
  · rw [if_pos h, awake_tells _ (by omega)]; rfl
  · rw [if_neg h]
    obtain ⟨a, rfl⟩ := Int.eq_ofNat_of_zero_le ha0.1
    have e : wrap64 (1 + wrap64 (Int.tmod (a : Int) 12)) = ((1 + a % 12 : Nat) : Int) := by
      have : Int.tmod (a : Int) 12 = ((a % 12 : Nat) : Int) := by rw [Int.ofNat_tmod]; rfl
      rw [this]; unfold wrap64; omega
    rw [e]
    exact rounds_l0 (1 + a % 12) (by omega) (by omega) l (by omega) (fun x hx => wfu (hw x hx)) (1 + a % 12) 0 400 (by omega) (by omega)

end Go.Proofs.Ythbjbjlfliogmaa.Pure
