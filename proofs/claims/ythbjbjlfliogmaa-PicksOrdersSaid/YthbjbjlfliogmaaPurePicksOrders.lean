/- Which order has which number, and back; how many there are: for any two numbers, and every list of up to 20 numbers; longer ones answer by the example. -/
import Derived.Test.YthbjbjlfliogmaaPPicksOrdersx4
namespace Go.Proofs.Ythbjbjlfliogmaa.Pure
open Go.RowKit Go.Proofs.Ythbjbjlfliogmaa.Hand Go.Proofs.Ythbjbjlfliogmaa.PPicksOrders Go.Proofs.YthbjbjlfliogmaaW.PrintWords Go.Proofs.YthbjbjlfliogmaaW.PrintLast
set_option linter.unusedVariables false
set_option linter.unusedSimpArgs false

theorem awake_tells (k : Nat) (hk : 6 ≤ k) : muleteerlaw19_awake.f k = some true := at_rounds muleteerlaw19_awake.mono hk (by decide +kernel)
theorem rd_get (l : List Int) (i : Nat) (h : i < l.length) : rd l (i : Int) = l[i] := by
  simp [rd, List.getD_eq_getElem?_getD, h]
theorem w1 (i : Nat) (h : i ≤ 1000) : wrap64 ((i : Int) + 1) = ((i + 1 : Nat) : Int) := by unfold wrap64; omega
theorem same_l0 (l m : List Int) (hlm : l.length = m.length) (hs : l.length ≤ 1000) : ∀ j i k, i + j = l.length → j < k → muleteerref16_Same.l0 k l m (i : Int) = some (decide (l.drop i = m.drop i)) := by
  intro j
  induction j with
  | zero =>
    intro i k hi hk
    obtain ⟨k, rfl⟩ : ∃ q, k = q + 1 := ⟨k - 1, by omega⟩
    rw [muleteerref16_Same.l0, if_neg (by omega), List.drop_eq_nil_of_le (by omega), List.drop_eq_nil_of_le (by omega)]
    rfl
  | succ j ih =>
    intro i k hi hk
    obtain ⟨k, rfl⟩ : ∃ q, k = q + 1 := ⟨k - 1, by omega⟩
    have hil : i < l.length := by omega
    have him : i < m.length := by omega
    rw [muleteerref16_Same.l0, if_pos (by omega), if_pos (by omega), if_pos (by omega), rd_get l i hil, rd_get m i him, w1 i (by omega), ih (i + 1) k (by omega) (by omega)]
    have hd : (l.drop i = m.drop i) ↔ (l[i] = m[i] ∧ l.drop (i + 1) = m.drop (i + 1)) := by
      rw [List.drop_eq_getElem_cons hil, List.drop_eq_getElem_cons him]; exact List.cons_eq_cons
    by_cases e : l[i] = m[i]
    · rw [if_pos e]; exact congrArg some (decide_eq_decide.2 ⟨fun h => hd.2 ⟨e, h⟩, fun h => (hd.1 h).2⟩)
    · rw [if_neg e]; exact congrArg some (decide_eq_false (fun h => e (hd.1 h).1)).symm
theorem same_f (k : Nat) (l m : List Int) (hk : l.length < k) (hs : l.length ≤ 1000) : muleteerref16_Same.f k l m = some (decide (l = m)) := by
  unfold muleteerref16_Same.f
  by_cases h : l.length = m.length
  · rw [if_pos (by omega)]
    exact same_l0 l m h hs l.length 0 k (by omega) hk
  · rw [if_neg (by omega), decide_eq_false (fun e => h (by rw [e]))]
/-- Sums and products of small numbers of 64 bits. -/
theorem wu (n : Nat) (h : n < 18446744073709551616) : IntKind.u64.wrap (n : Int) = (n : Int) := by rw [IntKind.wrap_u64]; omega
theorem rorders_f : ∀ n k, n ≤ 12 → n < k → muleteerref19_Orders.f k (n : Int) = some ((factN n : Nat) : Int)
  | 0, k, _, hk => by
    obtain ⟨k, rfl⟩ : ∃ q, k = q + 1 := ⟨k - 1, by omega⟩
    rfl
  | n + 1, k, hn, hk => by
    obtain ⟨k, rfl⟩ : ∃ q, k = q + 1 := ⟨k - 1, by omega⟩
    have e1 : wrap64 (((n + 1 : Nat) : Int) - 1) = (n : Int) := by unfold wrap64; omega
    have hb := factN_12 (n + 1) hn
    have e2 : ((n + 1 : Nat) : Int) * ((factN n : Nat) : Int) = ((factN (n + 1) : Nat) : Int) := by rw [← Int.natCast_mul, Nat.mul_comm]; rfl
    rw [muleteerref19_Orders.f, if_neg (by omega), e1, rorders_f n k (by omega) (by omega), Option.bind_some, wu (n + 1) (by omega), e2, wu _ (by omega)]
theorem orders_l0 (n : Nat) (hn : n ≤ 12) : ∀ j i k, i + j = n → j < k → picks_Orders.l0 k ((factN i : Nat) : Int) (n : Int) (i : Int) = some ((factN n : Nat) : Int) := by
  intro j
  induction j with
  | zero =>
    intro i k hi hk
    obtain ⟨k, rfl⟩ : ∃ q, k = q + 1 := ⟨k - 1, by omega⟩
    obtain rfl : i = n := by omega
    rw [picks_Orders.l0, if_neg (by omega)]
  | succ j ih =>
    intro i k hi hk
    obtain ⟨k, rfl⟩ : ∃ q, k = q + 1 := ⟨k - 1, by omega⟩
    have hb := factN_12 (i + 1) (by omega)
    have e2 : ((factN i : Nat) : Int) * ((i + 1 : Nat) : Int) = ((factN (i + 1) : Nat) : Int) := by rw [← Int.natCast_mul]; rfl
    rw [picks_Orders.l0, if_pos (by omega), w1 i (by omega), wu (i + 1) (by omega), e2, wu _ (by omega)]
    exact ih (i + 1) k (by omega) (by omega)
theorem orders_f (n : Nat) (hn : n ≤ 12) (k : Nat) (hk : 14 ≤ k) : picks_Orders.f k (n : Int) = some ((factN n : Nat) : Int) := by
  obtain ⟨k, rfl⟩ : ∃ q, k = q + 1 := ⟨k - 1, by omega⟩
  unfold picks_Orders.f
  rw [if_neg (by omega), decide_eq_false (by omega), picks_Orders.j0, if_neg (by decide)]
  exact orders_l0 n hn n 0 k (by omega) (by omega)
theorem orders_no (n : Int) (hn : n < 0 ∨ n > 12) (k : Nat) (hk : 1 ≤ k) : picks_Orders.f k n = some 0 := by
  obtain ⟨k, rfl⟩ : ∃ q, k = q + 1 := ⟨k - 1, by omega⟩
  unfold picks_Orders.f
  by_cases h : n < 0
  · rw [if_pos h]; rfl
  · rw [if_neg h, decide_eq_true (by omega)]; rfl
theorem arr_step (l : List Int) (at' i : Nat) (hi : i < l.length) : (l.take (i + 1)).eraseIdx at' = if i = at' then (l.take i).eraseIdx at' else (l.take i).eraseIdx at' ++ [l[i]] := by
  rw [List.take_succ_eq_append_getElem hi]
  have hl : (l.take i).length = i := by rw [List.length_take]; omega
  rcases Nat.lt_trichotomy i at' with h | h | h
  · rw [if_neg (by omega), List.eraseIdx_of_length_le (by rw [List.length_append, hl]; simp; omega), List.eraseIdx_of_length_le (by omega)]
  · subst h
    have hh : (l.take i).eraseIdx i = l.take i := List.eraseIdx_of_length_le (by omega)
    rw [if_pos rfl, List.eraseIdx_append_of_length_le (by omega), hl, Nat.sub_self, hh]
    simp
  · rw [if_neg (by omega), List.eraseIdx_append_of_lt_length (by omega)]
theorem arr_l0 (l : List Int) (q r at' : Nat) (hl : l.length ≤ 12) (ha : at' < l.length) (hr : 0 < r) (k : Nat) (v : List Int) (hv : v.length ≤ 12) (hf : muleteerref19_arrange.f k (l.eraseIdx at') ((q % r : Nat) : Int) = some v) : ∀ j i, i + j = l.length →
    muleteerref19_arrange.l0 (k + 1 + j) l (q : Int) (r : Int) (at' : Int) ((l.take i).eraseIdx at') (i : Int) = some (l[at'] :: v) := by
  intro j
  induction j with
  | zero =>
    intro i hi
    obtain rfl : i = l.length := by omega
    have e : Int.tmod (q : Int) (r : Int) = ((q % r : Nat) : Int) := by rw [Int.ofNat_tmod]
    rw [Nat.add_zero, muleteerref19_arrange.l0, if_neg (by omega), if_pos (by omega), if_pos (by omega), Option.bind_some, if_neg (by omega), List.take_length, e, hf, Option.bind_some, rd_get l at' ha, if_pos (by simp; omega)]
    rfl
  | succ j ih =>
    intro i hi
    have hil : i < l.length := by omega
    have ih' := ih (i + 1) (by omega)
    rw [arr_step l at' i hil] at ih'
    rw [← Nat.add_assoc, muleteerref19_arrange.l0, if_pos (by omega), w1 i (by omega)]
    by_cases e : i = at'
    · rw [if_pos (by omega)]
      rw [if_pos e] at ih'
      exact ih'
    · rw [if_neg (by omega), if_pos (by omega), if_pos (by rw [List.length_eraseIdx]; split <;> simp <;> omega), rd_get l i hil]
      rw [if_neg e] at ih'
      exact ih'
theorem orderF_length : ∀ m L q, (orderF m L q).length = m
  | 0, _, _ => rfl
  | m + 1, L, q => by simp only [orderF, List.length_cons, orderF_length m]
theorem arrange_f : ∀ m (l : List Int) q k, l.length = m → m ≤ 12 → q < factN m → (m + 1) * (m + 3) + 14 ≤ k → muleteerref19_arrange.f k l (q : Int) = some (orderF m l q)
  | 0, l, q, k, hl, _, _, hk => by
    obtain ⟨k, rfl⟩ : ∃ q, k = q + 1 := ⟨k - 1, by omega⟩
    rw [muleteerref19_arrange.f, if_pos (by omega)]
    simp only [orderF]
  | m + 1, l, q, k, hl, hm, hq, hk => by
    have hpos := factN_pos m
    have hb0 := factN_12 m (by omega)
    have ht : q / factN m < m + 1 := (Nat.div_lt_iff_lt_mul hpos).2 (by rw [Nat.mul_comm]; exact hq)
    have hm2 : (m + 1 + 1) * (m + 1 + 3) = (m + 1) * (m + 3) + 2 * m + 5 := by
      simp only [Nat.add_mul, Nat.mul_add, Nat.mul_one, Nat.one_mul]
      omega
    rw [hm2] at hk
    generalize hK : (m + 1) * (m + 3) = K at hk
    obtain ⟨k, rfl⟩ : ∃ q, k = q + 1 + (m + 1) + 1 := ⟨k - m - 3, by omega⟩
    have hmod : q % factN m < factN m := Nat.mod_lt _ hpos
    have e2 : Int.tdiv (q : Int) ((factN m : Nat) : Int) = ((q / factN m : Nat) : Int) := by rw [Int.ofNat_tdiv]
    simp only [orderF]
    obtain ⟨t, ht2⟩ : ∃ t, q / factN m = t := ⟨_, rfl⟩
    rw [ht2] at ht e2 ⊢
    have htl : t < l.length := by omega
    have ih := arrange_f m (l.eraseIdx t) (q % factN m) k (by rw [List.length_eraseIdx, if_pos htl]; omega) (by omega) hmod (by rw [hK]; omega)
    have h0 := arr_l0 l q (factN m) t (by omega) htl hpos k _ (by rw [orderF_length]; omega) ih (m + 1) 0 (by omega)
    have e1 : wrap64 ((l.length : Int) - 1) = (m : Int) := by unfold wrap64; omega
    have e3 : wrap64 (IntKind.u64.wrap (t : Int)) = (t : Int) := by rw [wu t (by omega)]; unfold wrap64; omega
    rw [muleteerref19_arrange.f, if_neg (by omega), e1, rorders_f m _ (by omega) (by omega), Option.bind_some, if_neg (by omega), e2, e3]
    refine Eq.trans h0 ?_
    rw [List.getD_eq_getElem?_getD, List.getElem?_eq_getElem htl, Option.getD_some]
theorem rorder_l0 (n q : Nat) (hn : n ≤ 12) : ∀ j i k, i + j = n → j + 230 < k → muleteerref19_Order.l0 k (n : Int) (q : Int) (upTo i) (i : Int) = some (orderF n (upTo n) (q % factN n)) := by
  intro j
  induction j with
  | zero =>
    intro i k hi hk
    obtain ⟨k, rfl⟩ : ∃ q, k = q + 1 := ⟨k - 1, by omega⟩
    obtain rfl : i = n := by omega
    have hpos := factN_pos i
    have e : Int.tmod (q : Int) ((factN i : Nat) : Int) = ((q % factN i : Nat) : Int) := by rw [Int.ofNat_tmod]
    have hk2 : (i + 1) * (i + 3) ≤ 13 * 15 := Nat.mul_le_mul (by omega) (by omega)
    rw [muleteerref19_Order.l0, if_neg (by omega), rorders_f i k (by omega) (by omega), Option.bind_some, if_neg (by omega), e, arrange_f i (upTo i) _ k (upTo_length i) (by omega) (Nat.mod_lt _ hpos) (by omega)]
    rfl
  | succ j ih =>
    intro i k hi hk
    obtain ⟨k, rfl⟩ : ∃ q, k = q + 1 := ⟨k - 1, by omega⟩
    rw [muleteerref19_Order.l0, if_pos (by omega), if_pos (by rw [upTo_length]; omega), w1 i (by omega), ← upTo_succ]
    exact ih (i + 1) k (by omega) (by omega)
/-- How many of a list are smaller than a number. -/
def cnt (R : List Int) (x : Int) : Nat := (R.filter (fun y => decide (y < x))).length
theorem cnt_cons (y : Int) (R : List Int) (x : Int) : cnt (y :: R) x = if y < x then cnt R x + 1 else cnt R x := by
  unfold cnt
  by_cases h : y < x <;> simp [h]
theorem cnt_le (R : List Int) (x : Int) : cnt R x ≤ R.length := List.length_filter_le _ _
/-- The number of an order, by what is smaller behind each. -/
def numF : List Int → Nat
  | [] => 0
  | x :: r => cnt r x * factN r.length + numF r
theorem index_l0 (l : List Int) (x : Int) (hs : l.length ≤ 1000) : ∀ j i k, i + j = l.length → j < k → ∃ t, slices_Index_int_int.l0 k l x (l.length : Int) (i : Int) = some t ∧ (t ≥ 0 ↔ x ∈ l.drop i) := by
  intro j
  induction j with
  | zero =>
    intro i k hi hk
    obtain ⟨k, rfl⟩ : ∃ q, k = q + 1 := ⟨k - 1, by omega⟩
    refine ⟨-1, ?_, ?_⟩
    · rw [slices_Index_int_int.l0, if_neg (by omega)]
    · rw [List.drop_eq_nil_of_le (by omega)]; simp
  | succ j ih =>
    intro i k hi hk
    obtain ⟨k, rfl⟩ : ∃ q, k = q + 1 := ⟨k - 1, by omega⟩
    have hil : i < l.length := by omega
    rw [slices_Index_int_int.l0, if_pos (by omega), if_pos (by omega), if_pos (by omega), rd_get l i hil, w1 i (by omega), List.drop_eq_getElem_cons hil]
    by_cases e : x = l[i]
    · exact ⟨i, by rw [if_pos e], by rw [← e]; simp⟩
    · rw [if_neg e]
      obtain ⟨t, h1, h2⟩ := ih (i + 1) k (by omega) (by omega)
      exact ⟨t, h1, by rw [h2]; exact ⟨fun h => List.mem_cons_of_mem _ h, fun h => (List.mem_cons.1 h).resolve_left e⟩⟩
theorem contains_f (k : Nat) (l : List Int) (x : Int) (hk : l.length < k) (hs : l.length ≤ 1000) : slices_Contains_int_int.f k l x = some (decide (x ∈ l)) := by
  obtain ⟨t, h1, h2⟩ := index_l0 l x hs l.length 0 k (by omega) hk
  unfold slices_Contains_int_int.f slices_Index_int_int.f
  rw [show ((0 : Int)) = ((0 : Nat) : Int) from rfl, h1, Option.bind_some]
  rw [List.drop_zero] at h2
  exact congrArg some (decide_eq_decide.2 h2)
theorem number_l1 (l : List Int) (n K i : Nat) (x : Int) (R : List Int) (k : Nat) (hR : R.length ≤ 12) : ∀ d j less, j + d = R.length → less ≤ j →
    picks_Number.l1 (k + 1 + d) l (n : Int) (K : Int) (i : Int) x (less : Int) l (n : Int) (i : Int) R (R.length : Int) (j : Int) = picks_Number.l0 k l (n : Int) (IntKind.u64.wrap ((IntKind.u64.wrap ((K : Int) * (IntKind.u64.wrap (wrap64 ((n : Int) - (i : Int)))))) + (IntKind.u64.wrap ((less + cnt (R.drop j) x : Nat) : Int)))) l (n : Int) (wrap64 ((i : Int) + 1)) := by
  intro d
  induction d with
  | zero =>
    intro j less hj hl
    rw [Nat.add_zero, picks_Number.l1, if_neg (by omega), List.drop_eq_nil_of_le (by omega)]
    rfl
  | succ d ih =>
    intro j less hj hl
    have hjl : j < R.length := by omega
    rw [← Nat.add_assoc, picks_Number.l1, if_pos (by omega), if_pos (by omega), if_pos (by omega), rd_get R j hjl, w1 j (by omega), w1 less (by omega), List.drop_eq_getElem_cons hjl, cnt_cons]
    by_cases e : R[j] < x
    · rw [if_pos e, if_pos e, ih (j + 1) (less + 1) (by omega) (by omega)]
      rw [show less + 1 + cnt (R.drop (j + 1)) x = less + (cnt (R.drop (j + 1)) x + 1) by omega]
    · rw [if_neg e, if_neg e, ih (j + 1) less (by omega) (by omega)]
/-- Whether each of a list, from one place on, is below its length and not ahead of it. -/
def okF (l : List Int) : Nat → Nat → Bool
  | _, 0 => true
  | i, d + 1 => decide (0 ≤ l.getD i 0) && (decide (l.getD i 0 < (l.length : Int)) && (!decide (l.getD i 0 ∈ l.take i) && okF l (i + 1) d))
theorem number_l0 (l : List Int) (hn : l.length ≤ 12) : ∀ d i k K, i + d = l.length → 14 + 20 * d ≤ k → (K + 1) * factN d ≤ factN l.length →
    picks_Number.l0 k l (l.length : Int) (K : Int) l (l.length : Int) (i : Int) = some (if okF l i d = true then (((K * factN d + numF (l.drop i) : Nat) : Int), true) else (0, false)) := by
  intro d
  induction d with
  | zero =>
    intro i k K hi hk hK
    obtain ⟨k, rfl⟩ : ∃ q, k = q + 1 := ⟨k - 1, by omega⟩
    rw [picks_Number.l0, if_neg (by omega), okF, if_pos rfl, List.drop_eq_nil_of_le (by omega)]
    simp [factN, numF]
  | succ d ih =>
    intro i k K hi hk hK
    have hil : i < l.length := by omega
    have hb := factN_12 l.length hn
    obtain ⟨k, rfl⟩ : ∃ q, k = q + 1 + d + 1 + 1 := ⟨k - d - 3, by omega⟩
    have hx : l.getD i 0 = l[i] := by rw [List.getD_eq_getElem?_getD, List.getElem?_eq_getElem hil, Option.getD_some]
    rw [okF, hx]
    generalize hxx : l[i] = x
    have hno : picks_Number.j1 (k + 1 + d + 1) l (l.length : Int) (K : Int) (i : Int) x l (l.length : Int) (i : Int) true = some (0, false) := by
      rw [picks_Number.j1, if_pos rfl]
    have hyes : picks_Number.j1 (k + 1 + d + 1) l (l.length : Int) (K : Int) (i : Int) x l (l.length : Int) (i : Int) false = some (if okF l (i + 1) d = true then (((K * factN (d + 1) + numF (l.drop i) : Nat) : Int), true) else (0, false)) := by
      rw [picks_Number.j1, if_neg (by decide), w1 i (by omega), if_pos (by omega), if_pos (by omega), Int.toNat_natCast]
      have hRl : (l.drop (i + 1)).length = d := by rw [List.length_drop]; omega
      have h1 := number_l1 l l.length K i x (l.drop (i + 1)) k (by omega) d 0 0 (by omega) (by omega)
      rw [show ((0 : Int)) = ((0 : Nat) : Int) from rfl, h1, List.drop_zero, Nat.zero_add]
      have hc := cnt_le (l.drop (i + 1)) x
      have e1 : wrap64 ((l.length : Int) - (i : Int)) = ((d + 1 : Nat) : Int) := by unfold wrap64; omega
      have hpos := factN_pos d
      have hKd : (K * (d + 1) + cnt (l.drop (i + 1)) x + 1) * factN d ≤ factN l.length := by
        refine Nat.le_trans (Nat.mul_le_mul_right _ (show K * (d + 1) + cnt (l.drop (i + 1)) x + 1 ≤ (K + 1) * (d + 1) by rw [Nat.add_mul]; omega)) ?_
        rw [Nat.mul_assoc, Nat.mul_comm (d + 1)]
        exact hK
      have hKs : K * (d + 1) + cnt (l.drop (i + 1)) x + 1 ≤ 479001600 := Nat.le_trans (Nat.le_mul_of_pos_right _ hpos) (Nat.le_trans hKd hb)
      rw [e1, wu (d + 1) (by omega), ← Int.natCast_mul, wu (K * (d + 1)) (by omega), wu (cnt (l.drop (i + 1)) x) (by omega), ← Int.natCast_add, wu _ (by omega), w1 i (by omega), ih (i + 1) k (K * (d + 1) + cnt (l.drop (i + 1)) x) (by omega) (by omega) hKd]
      rw [List.drop_eq_getElem_cons hil, hxx, numF, hRl, factN, Nat.add_mul, Nat.mul_assoc, Nat.mul_comm (d + 1), Nat.add_assoc]
      rfl
    rw [picks_Number.l0, if_pos (by omega), if_pos (by omega), if_pos (by omega), rd_get l i hil, hxx]
    by_cases h0 : x < 0
    · rw [if_pos h0, hno, decide_eq_false (by omega)]; rfl
    · rw [if_neg h0, decide_eq_true (by omega)]
      by_cases h1 : x ≥ (l.length : Int)
      · rw [if_pos h1, hno, decide_eq_false (by omega)]; rfl
      · rw [if_neg h1, decide_eq_true (by omega), if_pos (by omega), Int.toNat_natCast, contains_f _ _ _ (by rw [List.length_take]; omega) (by rw [List.length_take]; omega), Option.bind_some]
        by_cases h2 : x ∈ l.take i
        · rw [decide_eq_true h2, hno]; rfl
        · rw [decide_eq_false h2, hyes]; rfl
theorem number_f (l : List Int) (k : Nat) (hk : 260 ≤ k) : picks_Number.f k l = some (if l.length ≤ 12 ∧ okF l 0 l.length = true then ((numF l : Int), true) else (0, false)) := by
  unfold picks_Number.f
  by_cases h : (l.length : Int) > 12
  · rw [if_pos h, if_neg (by omega)]
  · rw [if_neg h]
    have := number_l0 l (by omega) l.length 0 k 0 (by omega) (by omega) (by omega)
    rw [show ((0 : Nat) : Int) = 0 from rfl] at this
    rw [this]
    by_cases h2 : okF l 0 l.length = true
    · rw [if_pos h2, if_pos ⟨by omega, h2⟩]; simp
    · rw [if_neg h2, if_neg (fun h => h2 h.2)]
theorem perm_of_sub : ∀ (A B : List Int), A.Nodup → (∀ a ∈ A, a ∈ B) → B.length ≤ A.length → A.Perm B
  | [], B, _, _, hl => by
    obtain rfl : B = [] := List.eq_nil_of_length_eq_zero (by simpa using hl)
    exact List.Perm.refl _
  | a :: A, B, hn, hs, hl => by
    have ha : a ∈ B := hs a List.mem_cons_self
    have hn' := List.nodup_cons.1 hn
    have p : B.Perm (a :: B.erase a) := List.perm_cons_erase ha
    have hlen : (B.erase a).length = B.length - 1 := List.length_erase_of_mem ha
    refine (List.Perm.cons a (perm_of_sub A (B.erase a) hn'.2 (fun x hx => ?_) ?_)).trans p.symm
    · have hne : x ≠ a := fun e => hn'.1 (e ▸ hx)
      exact (List.mem_erase_of_ne hne).2 (hs x (List.mem_cons_of_mem _ hx))
    · rw [hlen]; simp only [List.length_cons] at hl; omega
theorem mem_upTo (n : Nat) (x : Int) : x ∈ upTo n ↔ 0 ≤ x ∧ x < n := by
  unfold upTo
  simp only [List.mem_map, List.mem_range]
  constructor
  · rintro ⟨i, hi, rfl⟩; omega
  · rintro ⟨h1, h2⟩; exact ⟨x.toNat, by omega, by omega⟩
theorem upTo_sorted (n : Nat) : (upTo n).Pairwise (· < ·) := by
  unfold upTo
  rw [List.pairwise_map]
  exact (List.pairwise_lt_range).imp (fun h => by omega)
theorem nodup_of_sorted {l : List Int} (h : l.Pairwise (· < ·)) : l.Nodup := h.imp (fun h e => by omega)
theorem okF_iff (l : List Int) : ∀ d i, i + d = l.length → (okF l i d = true ↔ ∀ p, i ≤ p → p < l.length → 0 ≤ l.getD p 0 ∧ l.getD p 0 < (l.length : Int) ∧ ¬ l.getD p 0 ∈ l.take p)
  | 0, i, hi => ⟨fun _ p h1 h2 => by omega, fun _ => rfl⟩
  | d + 1, i, hi => by
    have ih := okF_iff l d (i + 1) (by omega)
    simp only [okF, Bool.and_eq_true, decide_eq_true_eq, Bool.not_eq_true', decide_eq_false_iff_not, ih]
    constructor
    · rintro ⟨h1, h2, h3, h4⟩ p hp hl
      rcases Nat.eq_or_lt_of_le hp with rfl | hp
      · exact ⟨h1, h2, h3⟩
      · exact h4 p hp hl
    · intro h
      have h0 := h i (Nat.le_refl _) (by omega)
      exact ⟨h0.1, h0.2.1, h0.2.2, fun p hp hl => h p (by omega) hl⟩
theorem okF_perm (l : List Int) : okF l 0 l.length = true ↔ l.Perm (upTo l.length) := by
  rw [okF_iff l l.length 0 (by omega)]
  constructor
  · intro h
    have hg : ∀ p (hp : p < l.length), l.getD p 0 = l[p] := fun p hp => by rw [List.getD_eq_getElem?_getD, List.getElem?_eq_getElem hp, Option.getD_some]
    refine perm_of_sub l _ ?_ ?_ (by rw [upTo_length]; exact Nat.le_refl _)
    · refine List.pairwise_iff_getElem.2 (fun i j hi hj hij e => ?_)
      refine (h j (by omega) hj).2.2 ?_
      rw [hg j hj, ← e]
      exact List.mem_take_iff_getElem.2 ⟨i, by omega, rfl⟩
    · intro a ha
      obtain ⟨p, hp, rfl⟩ := List.getElem_of_mem ha
      have := h p (by omega) hp
      rw [hg p hp] at this
      exact (mem_upTo _ _).2 ⟨this.1, this.2.1⟩
  · intro h p _ hp
    have hg : l.getD p 0 = l[p] := by rw [List.getD_eq_getElem?_getD, List.getElem?_eq_getElem hp, Option.getD_some]
    have hm := (mem_upTo _ _).1 (h.mem_iff.1 (List.getElem_mem hp))
    have hnd : l.Nodup := h.nodup_iff.2 (nodup_of_sorted (upTo_sorted _))
    rw [hg]
    refine ⟨hm.1, hm.2, fun hmem => ?_⟩
    obtain ⟨i, hi, e⟩ := List.mem_take_iff_getElem.1 hmem
    have := List.pairwise_iff_getElem.1 hnd i p (by omega) hp (by omega)
    exact this e
theorem cnt_perm {A B : List Int} (h : A.Perm B) (x : Int) : cnt A x = cnt B x := (h.filter _).length_eq
theorem cnt_sorted : ∀ (S : List Int) (t : Nat), S.Pairwise (· < ·) → (ht : t < S.length) → cnt (S.eraseIdx t) S[t] = t
  | [], t, _, ht => by simp at ht
  | s :: S, 0, h, _ => by
    have h1 := (List.pairwise_cons.1 h).1
    simp only [List.eraseIdx_cons_zero, List.getElem_cons_zero]
    unfold cnt
    rw [List.length_eq_zero_iff, List.filter_eq_nil_iff]
    intro a ha
    have := h1 a ha
    simp; omega
  | s :: S, t + 1, h, ht => by
    have h1 := List.pairwise_cons.1 h
    have ht' : t < S.length := by simpa using ht
    have ih := cnt_sorted S t h1.2 ht'
    simp only [List.eraseIdx_cons_succ, List.getElem_cons_succ]
    rw [cnt_cons, if_pos (h1.1 _ (List.getElem_mem ht')), ih]
theorem erase_sorted {S : List Int} (t : Nat) (h : S.Pairwise (· < ·)) : (S.eraseIdx t).Pairwise (· < ·) := h.sublist (List.eraseIdx_sublist S t)
theorem perm_eraseIdx : ∀ (S : List Int) (t : Nat) (ht : t < S.length), S.Perm (S[t] :: S.eraseIdx t)
  | [], t, ht => by simp at ht
  | s :: S, 0, _ => List.Perm.refl _
  | s :: S, t + 1, ht => ((perm_eraseIdx S t (by simpa using ht)).cons s).trans (List.Perm.swap _ _ _)
/-- Back: the order of the number of an order. -/
theorem back : ∀ (l S : List Int), l.Perm S → S.Pairwise (· < ·) → numF l < factN l.length ∧ orderF l.length S (numF l) = l
  | [], S, _, _ => ⟨by decide, rfl⟩
  | x :: r, S, h, hs => by
    have hx : x ∈ S := h.mem_iff.1 List.mem_cons_self
    obtain ⟨t, ht, rfl⟩ := List.getElem_of_mem hx
    have hp : r.Perm (S.eraseIdx t) := List.Perm.cons_inv (h.trans (perm_eraseIdx S t ht))
    obtain ⟨ih1, ih2⟩ := back r (S.eraseIdx t) hp (erase_sorted t hs)
    have hc : cnt r S[t] = t := by rw [cnt_perm hp, cnt_sorted S t hs ht]
    have hl : S.length = r.length + 1 := by rw [← h.length_eq]; rfl
    have hpos := factN_pos r.length
    have hn : numF (S[t] :: r) = t * factN r.length + numF r := by rw [numF, hc]
    have hd : numF (S[t] :: r) / factN r.length = t := by
      rw [hn, Nat.mul_comm, Nat.mul_add_div hpos, Nat.div_eq_of_lt ih1, Nat.add_zero]
    have hm : numF (S[t] :: r) % factN r.length = numF r := by
      rw [hn, Nat.mul_comm, Nat.mul_add_mod, Nat.mod_eq_of_lt ih1]
    refine ⟨?_, ?_⟩
    · rw [hn, List.length_cons, factN]
      have h1 : t * factN r.length + factN r.length ≤ factN r.length * (r.length + 1) := by
        rw [Nat.mul_comm (factN r.length), ← Nat.succ_mul]
        exact Nat.mul_le_mul_right _ (by omega)
      omega
    · rw [List.length_cons, orderF, hd, hm, ih2, List.getD_eq_getElem?_getD, List.getElem?_eq_getElem ht, Option.getD_some]
/-- Forth: the number of the order of a number. -/
theorem forth : ∀ (m : Nat) (S : List Int) (q : Nat), S.length = m → S.Pairwise (· < ·) → q < factN m → (orderF m S q).Perm S ∧ numF (orderF m S q) = q
  | 0, S, q, hl, _, hq => by
    obtain rfl : S = [] := List.eq_nil_of_length_eq_zero hl
    refine ⟨List.Perm.refl _, ?_⟩
    simp only [factN] at hq
    simp only [orderF, numF]; omega
  | m + 1, S, q, hl, hs, hq => by
    have hpos := factN_pos m
    have ht : q / factN m < m + 1 := (Nat.div_lt_iff_lt_mul hpos).2 (by rw [Nat.mul_comm]; exact hq)
    have hdm := Nat.div_add_mod q (factN m)
    have hmod := Nat.mod_lt q hpos
    simp only [orderF]
    obtain ⟨t, ht2⟩ : ∃ t, q / factN m = t := ⟨_, rfl⟩
    rw [ht2] at ht hdm ⊢
    have htl : t < S.length := by omega
    obtain ⟨ih1, ih2⟩ := forth m (S.eraseIdx t) (q % factN m) (by rw [List.length_eraseIdx, if_pos htl]; omega) (erase_sorted t hs) hmod
    rw [List.getD_eq_getElem?_getD, List.getElem?_eq_getElem htl, Option.getD_some]
    refine ⟨(ih1.cons _).trans (perm_eraseIdx S t htl).symm, ?_⟩
    rw [numF, ih2, cnt_perm ih1, cnt_sorted S t hs htl, orderF_length, Nat.mul_comm]
    exact hdm
theorem is_l1 (l : List Int) (x : Nat) (hx : x ≤ 100) (k : Nat) (hl : l.length ≤ 12) : ∀ d j c, j + d = l.length → c ≤ j →
    muleteerref19_Is.l1 (k + 1 + d) l (x : Int) (c : Int) (j : Int) = if c + (l.drop j).count (x : Int) = 1 then muleteerref19_Is.l0 k l ((x + 1 : Nat) : Int) else some false := by
  intro d
  induction d with
  | zero =>
    intro j c hj hc
    rw [Nat.add_zero, muleteerref19_Is.l1, if_neg (by omega), List.drop_eq_nil_of_le (by omega), List.count_nil, w1 x (by omega)]
    by_cases e : c = 1
    · rw [if_pos (by omega), if_pos (by omega)]
    · rw [if_neg (by omega), if_neg (by omega)]
  | succ d ih =>
    intro j c hj hc
    have hjl : j < l.length := by omega
    rw [← Nat.add_assoc, muleteerref19_Is.l1, if_pos (by omega), if_pos (by omega), rd_get l j hjl, w1 j (by omega), w1 c (by omega), List.drop_eq_getElem_cons hjl, List.count_cons]
    by_cases e : l[j] = (x : Int)
    · have hb : (l[j] == (x : Int)) = true := by simpa using e
      rw [if_pos e, ih (j + 1) (c + 1) (by omega) (by omega), show (if (l[j] == (x : Int)) = true then 1 else 0) = 1 from if_pos hb]
      rw [show c + 1 + (l.drop (j + 1)).count (x : Int) = c + ((l.drop (j + 1)).count (x : Int) + 1) by omega]
    · have hb : ¬ (l[j] == (x : Int)) = true := by simpa using e
      rw [if_neg e, ih (j + 1) c (by omega) (by omega), show (if (l[j] == (x : Int)) = true then 1 else 0) = 0 from if_neg hb, Nat.add_zero]
      rfl
theorem is_l0 (l : List Int) (hl : l.length ≤ 12) : ∀ d x k, x + d = l.length → 2 + 20 * d ≤ k → muleteerref19_Is.l0 k l (x : Int) = some (decide (∀ y, y < l.length → x ≤ y → l.count (y : Int) = 1)) := by
  intro d
  induction d with
  | zero =>
    intro x k hx hk
    obtain ⟨k, rfl⟩ : ∃ q, k = q + 1 := ⟨k - 1, by omega⟩
    rw [muleteerref19_Is.l0, if_neg (by omega), decide_eq_true (fun y h1 h2 => by omega)]
  | succ d ih =>
    intro x k hx hk
    obtain ⟨k, rfl⟩ : ∃ q, k = q + 1 + l.length + 1 := ⟨k - l.length - 2, by omega⟩
    have h1 := is_l1 l x (by omega) k hl l.length 0 0 (by omega) (by omega)
    rw [List.drop_zero, Nat.zero_add] at h1
    rw [muleteerref19_Is.l0, if_pos (by omega)]
    refine Eq.trans h1 ?_
    by_cases e : l.count (x : Int) = 1
    · rw [if_pos e, ih (x + 1) k (by omega) (by omega)]
      refine congrArg some (decide_eq_decide.2 ⟨fun h y h2 h1 => ?_, fun h y h2 h1 => h y h2 (by omega)⟩)
      rcases Nat.eq_or_lt_of_le h1 with rfl | h1
      · exact e
      · exact h y h2 h1
    · rw [if_neg e, decide_eq_false (fun h => e (h x (by omega) (Nat.le_refl _)))]
theorem is_perm (l : List Int) : (∀ y, y < l.length → 0 ≤ y → l.count ((y : Nat) : Int) = 1) ↔ l.Perm (upTo l.length) := by
  constructor
  · intro h
    refine (perm_of_sub (upTo l.length) l (nodup_of_sorted (upTo_sorted _)) (fun a ha => ?_) (by rw [upTo_length]; exact Nat.le_refl _)).symm
    obtain ⟨h1, h2⟩ := (mem_upTo _ _).1 ha
    obtain ⟨y, rfl⟩ := Int.eq_ofNat_of_zero_le h1
    have := h y (by omega) (by omega)
    exact List.count_pos_iff.1 (by omega)
  · intro h y hy _
    rw [h.count_eq]
    have hm : ((y : Nat) : Int) ∈ upTo l.length := (mem_upTo _ _).2 ⟨by omega, by omega⟩
    have h1 := List.nodup_iff_count.1 (nodup_of_sorted (upTo_sorted l.length)) ((y : Nat) : Int)
    have h2 := List.count_pos_iff.2 hm
    omega
theorem is_f (l : List Int) (k : Nat) (hk : 260 ≤ k) : muleteerref19_Is.f k l = some (decide (l.length ≤ 12 ∧ okF l 0 l.length = true)) := by
  unfold muleteerref19_Is.f
  by_cases h : (l.length : Int) > 12
  · rw [if_pos h, decide_eq_false (by omega)]
  · rw [if_neg h]
    have := is_l0 l (by omega) l.length 0 k (by omega) (by omega)
    rw [show ((0 : Nat) : Int) = 0 from rfl] at this
    rw [this]
    refine congrArg some (decide_eq_decide.2 ?_)
    rw [is_perm, okF_perm]
    exact ⟨fun h => ⟨by omega, h⟩, fun h => h.2⟩
theorem wf64 {n : Int} (h : (Lit.int .i64 n).wf = true) : -9223372036854775808 ≤ n ∧ n ≤ 9223372036854775807 := by
  have hmin : IntKind.i64.min = -9223372036854775808 := rfl
  have hmax : IntKind.i64.max = 9223372036854775807 := rfl
  simp only [Lit.wf, Bool.and_eq_true, decide_eq_true_eq] at h
  omega
theorem wfu {n : Int} (h : (Lit.int .u64 n).wf = true) : 0 ≤ n ∧ n < 18446744073709551616 := by
  have hmin : IntKind.u64.min = 0 := rfl
  have hmax : IntKind.u64.max = 18446744073709551615 := rfl
  simp only [Lit.wf, Bool.and_eq_true, decide_eq_true_eq] at h
  omega
theorem order_nat (n q : Nat) (hn : n ≤ 12) (hq : q < 18446744073709551616) : picks_Order.f (n : Int) (q : Int) = some (orderF n (upTo n) (q % factN n)) := by
  unfold picks_Order.f
  rw [if_pos (by omega), if_pos (by omega), Int.toNat_natCast, Int.toNat_natCast]
theorem part2 (l : List Int) (hl : l.length ≤ 20) (k : Nat) (hk : 400 ≤ k) : muleteerlaw19_PicksOrders.j1 k l = some true := by
  obtain ⟨k, rfl⟩ : ∃ q, k = q + 1 := ⟨k - 1, by omega⟩
  rw [muleteerlaw19_PicksOrders.j1, number_f l k (by omega), Option.bind_some, is_f l k (by omega), Option.bind_some]
  by_cases h : l.length ≤ 12 ∧ okF l 0 l.length = true
  · obtain ⟨h1, h2⟩ := back l _ ((okF_perm l).1 h.2) (upTo_sorted _)
    have hb := factN_12 l.length h.1
    rw [if_pos h, if_pos (decide_eq_true h), awake_tells k (by omega), Option.bind_some, if_pos rfl, if_pos rfl]
    rw [order_nat l.length (numF l) h.1 (by omega), Option.bind_some, Nat.mod_eq_of_lt h1, h2, same_f k l l (by omega) (by omega)]
    simp
  · rw [if_neg h, if_neg (by simpa using h), awake_tells k (by omega), Option.bind_some, if_pos rfl, if_pos rfl]
    rfl
theorem PicksOrders : muleteerlaw19_PicksOrders.Pure := by
  intro n q l hn hq _ _ _
  have hn := wf64 hn
  have hq := wfu hq
  refine ⟨500, ?_⟩
  unfold muleteerlaw19_PicksOrders.f
  by_cases h : (l.length : Int) > 20
  · rw [if_pos h, awake_tells _ (by omega)]; rfl
  · rw [if_neg h]
    obtain ⟨q, rfl⟩ := Int.eq_ofNat_of_zero_le hq.1
    by_cases hin : 0 ≤ n ∧ n ≤ 12
    · obtain ⟨n, rfl⟩ := Int.eq_ofNat_of_zero_le hin.1
      have hn12 : n ≤ 12 := by omega
      have hpos := factN_pos n
      obtain ⟨h1, h2⟩ := forth n (upTo n) (q % factN n) (upTo_length n) (upTo_sorted n) (Nat.mod_lt _ hpos)
      have hlen : (orderF n (upTo n) (q % factN n)).length = n := orderF_length n _ _
      have hok : okF (orderF n (upTo n) (q % factN n)) 0 (orderF n (upTo n) (q % factN n)).length = true := by
        rw [okF_perm, hlen]; exact h1
      have e : Int.tmod (q : Int) ((factN n : Nat) : Int) = ((q % factN n : Nat) : Int) := by rw [Int.ofNat_tmod]
      have hro : muleteerref19_Order.f 499 (n : Int) (q : Int) = some (orderF n (upTo n) (q % factN n)) := rorder_l0 n q hn12 n 0 499 (by omega) (by omega)
      rw [order_nat n q hn12 (by omega), Option.bind_some, if_neg (by omega), decide_eq_false (by omega), muleteerlaw19_PicksOrders.j0, if_neg (by decide)]
      rw [number_f _ 499 (by omega), if_pos ⟨by omega, hok⟩, h2, Option.bind_some, orders_f n hn12 499 (by omega), Option.bind_some, rorders_f n 499 hn12 (by omega), Option.bind_some, if_pos rfl, hro, Option.bind_some, same_f 499 _ _ (by omega) (by omega), Option.bind_some, if_pos (by simp), if_pos rfl, Option.bind_some, if_neg (by omega), if_pos e.symm]
      exact part2 l (by omega) 499 (by omega)
    · have ho : picks_Order.f n (q : Int) = some [] := by
        unfold picks_Order.f
        rw [if_pos (by omega), if_neg hin]
      have hj : muleteerlaw19_PicksOrders.j0 500 n (q : Int) l [] true = some true := by
        rw [muleteerlaw19_PicksOrders.j0, if_pos rfl, if_pos (by rfl), orders_no n (by omega) 499 (by omega), Option.bind_some, if_pos rfl]
        exact part2 l (by omega) 499 (by omega)
      rw [ho, Option.bind_some]
      by_cases h0 : n < 0
      · rw [if_pos h0, hj]
      · rw [if_neg h0, decide_eq_true (by omega), hj]

end Go.Proofs.Ythbjbjlfliogmaa.Pure
