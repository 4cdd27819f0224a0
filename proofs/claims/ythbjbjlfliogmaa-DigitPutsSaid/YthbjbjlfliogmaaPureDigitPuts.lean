/- The bytes of any number, any text, any list of texts: for every number, text of up to 300 bytes and list of up to 40 such texts; longer ones answer by the examples. -/
import Derived.Test.YthbjbjlfliogmaaPDigitPutsx1
namespace Go.Proofs.Ythbjbjlfliogmaa.Pure
open Go.RowKit Go.Proofs.Ythbjbjlfliogmaa.Hand Go.Proofs.Ythbjbjlfliogmaa.PDigitPuts Go.Proofs.YthbjbjlfliogmaaW.PrintWords Go.Proofs.YthbjbjlfliogmaaW.PrintLast
set_option linter.unusedVariables false
set_option linter.unusedSimpArgs false

/-! #### the reference's number -/
theorem tmod256 (n : Nat) : (Int.tmod ((n : Nat) : Int) 256) % 256 = ((n % 256 : Nat) : Int) := by
  rw [Int.tmod_eq_emod_of_nonneg (by omega)]; omega
theorem tdiv256 (n : Nat) (h : n < 18446744073709551616) : IntKind.u64.wrap (Int.tdiv ((n : Nat) : Int) 256) = ((n / 256 : Nat) : Int) := by
  rw [Int.tdiv_eq_ediv_of_nonneg (by omega), IntKind.wrap_u64]; omega
theorem strOfNums_append (a b : List Int) : strOfNums a ++ strOfNums b = strOfNums (a ++ b) := by
  apply ByteArray.ext
  apply Array.ext'
  simp [strOfNums, ByteArray.append_eq, ByteArray.data_append]
theorem refNum_l0 (f : Nat) : ∀ (n : Nat) (bs : List Int) (k : Nat), n < 256 ^ f → n < 18446744073709551616 → f < k → nbF f n + bs.length < 256 →
    muleteerref01_Num.l0 k (n : Int) bs = some (strOfNums (((nbF f n + bs.length : Nat) : Int) :: (bigE f n ++ bs))) := by
  induction f with
  | zero =>
    intro n bs k hn _ hk h256
    obtain ⟨k, rfl⟩ : ∃ m, k = m + 1 := ⟨k - 1, by omega⟩
    have h0 : n = 0 := by simp at hn; exact hn
    subst h0
    simp only [muleteerref01_Num.l0, bigE, nbF]
    simp only [nbF] at h256
    have e : ((bs.length : Nat) : Int) % 256 = ((0 + bs.length : Nat) : Int) := by omega
    rw [if_neg (by simp), Option.bind_some, if_pos (by rw [strOfNums_size, strOfNums_size]; simp; omega), strOfNums_append, e]
    rfl
  | succ f ih =>
    intro n bs k hn hb64 hk h256
    obtain ⟨k, rfl⟩ : ∃ m, k = m + 1 := ⟨k - 1, by omega⟩
    simp only [muleteerref01_Num.l0]
    by_cases h0 : n = 0
    · subst h0
      have e0 : nbF (f + 1) 0 = 0 := by simp [nbF]
      rw [e0] at h256
      have e : ((bs.length : Nat) : Int) % 256 = ((0 + bs.length : Nat) : Int) := by omega
      rw [if_neg (by simp), Option.bind_some, if_pos (by rw [strOfNums_size, strOfNums_size]; simp; omega), strOfNums_append, e, e0]
      simp [bigE]
    · have e1 : nbF (f + 1) n = nbF f (n / 256) + 1 := by simp [nbF, h0]
      have e2 : bigE (f + 1) n = bigE f (n / 256) ++ [((n % 256 : Nat) : Int)] := by simp [bigE, h0]
      rw [if_pos (by omega), Option.bind_some, if_pos (by simp; omega), tmod256, tdiv256 n hb64]
      rw [ih (n / 256) _ k (by rw [Nat.pow_succ] at hn; omega) (by omega) (by omega) (by rw [e1] at h256; simp; omega), e1, e2]
      have e3 : nbF f (n / 256) + ([((n % 256 : Nat) : Int)] ++ bs).length = nbF f (n / 256) + 1 + bs.length := by simp; omega
      rw [e3, List.append_assoc]
theorem refNum_f (n : Nat) (h : n < 18446744073709551616) (k : Nat) (hk : 8 < k) : muleteerref01_Num.f k (n : Int) = some (strOfNums (numNums n)) := by
  unfold muleteerref01_Num.f
  have hl := nbF_le 8 n
  rw [refNum_l0 8 n [] k (by omega) h hk (by simp; omega), numNums_eq]
  simp

theorem num_size (n : Nat) : (strOfNums (numNums n)).size ≤ 9 := by rw [strOfNums_size]; exact numNums_length n
theorem digit_f (x : Int) (h : 0 ≤ x ∧ x < 18446744073709551616) : digit_Num.f x = some (strOfNums (numNums x.toNat)) := by
  unfold digit_Num.f; rw [if_pos h]
theorem refNum_int (x : Int) (h : 0 ≤ x ∧ x < 18446744073709551616) (k : Nat) (hk : 8 < k) : muleteerref01_Num.f k x = some (strOfNums (numNums x.toNat)) := by
  obtain ⟨n, rfl⟩ := Int.eq_ofNat_of_zero_le h.1
  exact refNum_f n (by omega) k hk
theorem wf_u64 {n : Int} (h : (Lit.int .u64 n).wf = true) : 0 ≤ n ∧ n < 18446744073709551616 := by
  have hmin : IntKind.u64.min = 0 := rfl
  have hmax : IntKind.u64.max = 18446744073709551615 := rfl
  simp only [Lit.wf, Bool.and_eq_true, decide_eq_true_eq] at h
  omega

/-- The bytes of a text. -/
def textB (s : ByteArray) : ByteArray := strOfNums (numNums s.size) ++ s
theorem textB_size (s : ByteArray) (h : s.size ≤ 300) : (textB s).size ≤ 309 := by
  unfold textB
  have := num_size s.size
  rw [ByteArray.size_append]
  omega
theorem text_f (s : ByteArray) (h : s.size ≤ 300) : digit_Text.f s = some (textB s) := by
  unfold digit_Text.f
  have := num_size s.size
  rw [if_pos (by omega), digit_f _ (by omega), Option.bind_some, Int.toNat_natCast, if_pos (by omega)]
  rfl
theorem refText_f (s : ByteArray) (h : s.size ≤ 300) (k : Nat) (hk : 8 < k) : muleteerref01_Text.f k s = some (textB s) := by
  unfold muleteerref01_Text.f
  have := num_size s.size
  rw [if_pos (by omega), refNum_int _ (by omega) k hk, Option.bind_some, Int.toNat_natCast, if_pos (by omega)]
  rfl
def listB (l : List ByteArray) (acc : ByteArray) : ByteArray := l.foldl (fun a s => a ++ textB s) acc
theorem rd_at (l : List ByteArray) (i : Nat) (hi : i < l.length) : rdOf ByteArray.empty l (i : Int) = l[i] := by
  simp [rdOf, List.getD_eq_getElem?_getD, hi]
theorem list_l0 (l : List ByteArray) (hl : l.length ≤ 40) (hs : ∀ s ∈ l, s.size ≤ 300) (d : Nat) : ∀ (k i : Nat) (acc : ByteArray), i + d = l.length → d < k → acc.size ≤ 9 + 309 * i →
    digit_List.l0 k acc l (l.length : Int) (i : Int) = some (listB (l.drop i) acc) := by
  induction d with
  | zero =>
    intro k i acc hi hk ha
    obtain ⟨k, rfl⟩ : ∃ m, k = m + 1 := ⟨k - 1, by omega⟩
    simp only [digit_List.l0]
    rw [if_neg (by omega), List.drop_of_length_le (by omega)]
    rfl
  | succ d ih =>
    intro k i acc hi hk ha
    obtain ⟨k, rfl⟩ : ∃ m, k = m + 1 := ⟨k - 1, by omega⟩
    have hil : i < l.length := by omega
    have hw : wrap64 ((i : Int) + 1) = ((i + 1 : Nat) : Int) := by unfold wrap64; omega
    have h3 := hs l[i] (List.getElem_mem hil)
    have hts := textB_size l[i] h3
    simp only [digit_List.l0]
    rw [if_pos (by omega), if_pos (by omega), if_pos (by omega), rd_at l i hil, text_f _ h3, Option.bind_some, if_pos (by omega), hw, ih k (i + 1) _ (by omega) (by omega) (by rw [ByteArray.size_append]; omega), List.drop_eq_getElem_cons hil]
    rfl
theorem refList_l0 (l : List ByteArray) (hl : l.length ≤ 40) (hs : ∀ s ∈ l, s.size ≤ 300) (d : Nat) : ∀ (k i : Nat) (acc : ByteArray), i + d = l.length → d + 9 < k → acc.size ≤ 9 + 309 * i →
    muleteerref01_List.l0 k l acc (i : Int) = some (listB (l.drop i) acc) := by
  induction d with
  | zero =>
    intro k i acc hi hk ha
    obtain ⟨k, rfl⟩ : ∃ m, k = m + 1 := ⟨k - 1, by omega⟩
    simp only [muleteerref01_List.l0]
    rw [if_neg (by omega), List.drop_of_length_le (by omega)]
    rfl
  | succ d ih =>
    intro k i acc hi hk ha
    obtain ⟨k, rfl⟩ : ∃ m, k = m + 1 := ⟨k - 1, by omega⟩
    have hil : i < l.length := by omega
    have hw : wrap64 ((i : Int) + 1) = ((i + 1 : Nat) : Int) := by unfold wrap64; omega
    have h3 := hs l[i] (List.getElem_mem hil)
    have hts := textB_size l[i] h3
    simp only [muleteerref01_List.l0]
    rw [if_pos (by omega), if_pos (by omega), rd_at l i hil, refText_f _ h3 k (by omega), Option.bind_some, if_pos (by omega), hw, ih k (i + 1) _ (by omega) (by omega) (by rw [ByteArray.size_append]; omega), List.drop_eq_getElem_cons hil]
    rfl
theorem wrap_len (n : Nat) (h : n ≤ 40) : IntKind.u64.wrap ((n : Nat) : Int) = (n : Int) := by rw [IntKind.wrap_u64]; omega
theorem list_f (l : List ByteArray) (hl : l.length ≤ 40) (hs : ∀ s ∈ l, s.size ≤ 300) (k : Nat) (hk : 50 < k) : digit_List.f k l = some (listB l (strOfNums (numNums l.length))) := by
  unfold digit_List.f
  rw [wrap_len _ hl, digit_f _ (by omega), Option.bind_some, Int.toNat_natCast]
  have := num_size l.length
  exact list_l0 l hl hs l.length k 0 _ (by omega) (by omega) (by omega)
theorem refList_f (l : List ByteArray) (hl : l.length ≤ 40) (hs : ∀ s ∈ l, s.size ≤ 300) (k : Nat) (hk : 50 < k) : muleteerref01_List.f k l = some (listB l (strOfNums (numNums l.length))) := by
  unfold muleteerref01_List.f
  rw [wrap_len _ hl, refNum_int _ (by omega) k (by omega), Option.bind_some, Int.toNat_natCast]
  have := num_size l.length
  exact refList_l0 l hl hs l.length k 0 _ (by omega) (by omega) (by omega)
theorem law_l0 (x : Int) (hx : 0 ≤ x ∧ x < 18446744073709551616) (s : ByteArray) (hs : s.size ≤ 300) (l : List ByteArray) (hl : l.length ≤ 40) (d : Nat) : ∀ (k i : Nat), i + d = l.length → d + 52 < k → (∀ j, j < i → ∀ h : j < l.length, (l[j]'h).size ≤ 300) →
    muleteerlaw01_DigitPuts.l0 k x s l (i : Int) = some true := by
  induction d with
  | zero =>
    intro k i hi hk hall
    obtain ⟨k, rfl⟩ : ∃ m, k = m + 1 := ⟨k - 1, by omega⟩
    have hs2 : ∀ y ∈ l, y.size ≤ 300 := by
      intro y hy
      obtain ⟨j, hj, rfl⟩ := List.getElem_of_mem hy
      exact hall j (by omega) hj
    simp only [muleteerlaw01_DigitPuts.l0, muleteerlaw01_awake.f]
    rw [if_neg (by omega), Option.bind_some, if_pos rfl, digit_f x hx, Option.bind_some, refNum_int x hx k (by omega), Option.bind_some, if_pos rfl, text_f s hs, Option.bind_some, refText_f s hs k (by omega), Option.bind_some, if_pos rfl,
      list_f l hl hs2 k (by omega), Option.bind_some, refList_f l hl hs2 k (by omega), Option.bind_some]
    simp
  | succ d ih =>
    intro k i hi hk hall
    obtain ⟨k, rfl⟩ : ∃ m, k = m + 1 := ⟨k - 1, by omega⟩
    have hil : i < l.length := by omega
    have hw : wrap64 ((i : Int) + 1) = ((i + 1 : Nat) : Int) := by unfold wrap64; omega
    simp only [muleteerlaw01_DigitPuts.l0]
    rw [if_pos (by omega), if_pos (by omega), rd_at l i hil]
    by_cases h3 : ((l[i].size : Nat) : Int) > 300
    · rw [if_pos h3]; rfl
    · rw [if_neg h3, hw]
      refine ih k (i + 1) (by omega) (by omega) (fun j hj h => ?_)
      rcases Nat.lt_or_ge j i with h1 | h1
      · exact hall j h1 h
      · obtain rfl : j = i := by omega
        omega
theorem DigitPuts : muleteerlaw01_DigitPuts.Pure := by
  intro x s l hx hs hl
  refine ⟨120, ?_⟩
  unfold muleteerlaw01_DigitPuts.f
  have ht : ∀ k, muleteerlaw01_DigitPuts.j0 (k + 1) x s l true = some true := by
    intro k
    simp only [muleteerlaw01_DigitPuts.j0]
    rfl
  by_cases h1 : (s.size : Int) > 300
  · rw [if_pos h1]; exact ht 119
  · rw [if_neg h1]
    by_cases h2 : (l.length : Int) > 40
    · rw [decide_eq_true h2]; exact ht 119
    · rw [decide_eq_false h2]
      simp only [muleteerlaw01_DigitPuts.j0]
      rw [if_neg (by decide)]
      exact law_l0 x (wf_u64 hx) s (by omega) l (by omega) l.length 119 0 (by omega) (by omega) (fun j hj => by omega)

end Go.Proofs.Ythbjbjlfliogmaa.Pure
