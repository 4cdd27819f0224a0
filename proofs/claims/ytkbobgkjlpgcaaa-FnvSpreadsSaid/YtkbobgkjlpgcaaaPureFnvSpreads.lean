/- How many of any keys stand in each shard, all together: for every list of up to 100 keys and any number; longer lists answer by the examples. -/
import Derived.Test.YtkbobgkjlpgcaaaPFnvSpreadsx2
namespace Go.Proofs.Ytkbobgkjlpgcaaa.Pure
open Go.RowKit Go.Proofs.Ytkbobgkjlpgcaaa.Hand Go.Proofs.Ytkbobgkjlpgcaaa.PFnvSpreads Go.Proofs.YtkbobgkjlpgcaaaW.PrintWords Go.Proofs.YtkbobgkjlpgcaaaW.PrintLast
set_option linter.unusedVariables false
set_option linter.unusedSimpArgs false

/-! #### the reference's number -/
theorem tmod256 (n : Nat) : (Int.tmod ((n : Nat) : Int) 256) % 256 = ((n % 256 : Nat) : Int) := by
  rw [Int.tmod_eq_emod_of_nonneg (by omega)]; omega
theorem tdiv256 (n : Nat) (h : n < 18446744073709551616) : IntKind.u64.wrap (Int.tdiv ((n : Nat) : Int) 256) = ((n / 256 : Nat) : Int) := by
  rw [Int.tdiv_eq_ediv_of_nonneg (by omega), IntKind.wrap_u64]; omega
theorem strOfNums_append (a b : List Int) : strOfNums a ++ strOfNums b = strOfNums (a ++ b) := by
  apply ByteArray.ext
  apply Array.ext'
  simp [strOfNums, ByteArray.append_eq, ByteArray.data_append]
theorem refNum_l0 (f : Nat) : ∀ (n : Nat) (bs : List Int) (k : Nat), n < 256 ^ f → n < 18446744073709551616 → f < k → nbF f n + bs.length < 256 →
    muleteerref01_Num.l0 k (n : Int) bs = some (strOfNums (((nbF f n + bs.length : Nat) : Int) :: (bigE f n ++ bs))) := by
  induction f with
  | zero =>
    intro n bs k hn _ hk h256
    obtain ⟨k, rfl⟩ : ∃ m, k = m + 1 := ⟨k - 1, by omega⟩
    have h0 : n = 0 := by simp at hn; exact hn
    subst h0
    simp only [muleteerref01_Num.l0, bigE, nbF]
    simp only [nbF] at h256
    have e : ((bs.length : Nat) : Int) % 256 = ((0 + bs.length : Nat) : Int) := by omega
    rw [if_neg (by simp), Option.bind_some, if_pos (by rw [strOfNums_size, strOfNums_size]; simp; omega), strOfNums_append, e]
    rfl
  | succ f ih =>
    intro n bs k hn hb64 hk h256
    obtain ⟨k, rfl⟩ : ∃ m, k = m + 1 := ⟨k - 1, by omega⟩
    simp only [muleteerref01_Num.l0]
    by_cases h0 : n = 0
    · subst h0
      have e0 : nbF (f + 1) 0 = 0 := by simp [nbF]
      rw [e0] at h256
      have e : ((bs.length : Nat) : Int) % 256 = ((0 + bs.length : Nat) : Int) := by omega
      rw [if_neg (by simp), Option.bind_some, if_pos (by rw [strOfNums_size, strOfNums_size]; simp; omega), strOfNums_append, e, e0]
      simp [bigE]
    · have e1 : nbF (f + 1) n = nbF f (n / 256) + 1 := by simp [nbF, h0]
      have e2 : bigE (f + 1) n = bigE f (n / 256) ++ [((n % 256 : Nat) : Int)] := by simp [bigE, h0]
      rw [if_pos (by omega), Option.bind_some, if_pos (by simp; omega), tmod256, tdiv256 n hb64]
      rw [ih (n / 256) _ k (by rw [Nat.pow_succ] at hn; omega) (by omega) (by omega) (by rw [e1] at h256; simp; omega), e1, e2]
      have e3 : nbF f (n / 256) + ([((n % 256 : Nat) : Int)] ++ bs).length = nbF f (n / 256) + 1 + bs.length := by simp; omega
      rw [e3, List.append_assoc]
theorem refNum_f (n : Nat) (h : n < 18446744073709551616) (k : Nat) (hk : 8 < k) : muleteerref01_Num.f k (n : Int) = some (strOfNums (numNums n)) := by
  unfold muleteerref01_Num.f
  have hl := nbF_le 8 n
  rw [refNum_l0 8 n [] k (by omega) h hk (by simp; omega), numNums_eq]
  simp

/-! #### the hash, on lists of bytes -/
/-- One byte more. -/
def stepH (h : Int) (c : UInt8) : Int := IntKind.u64.wrap ((Go.bits .xor .u64 h (IntKind.u64.wrap (c.toNat : Int))) * 1099511628211)
def hashL (l : List UInt8) (h : Int) : Int := l.foldl stepH h
theorem hashL_range (l : List UInt8) : ∀ h, 0 ≤ h → h < 18446744073709551616 → 0 ≤ hashL l h ∧ hashL l h < 18446744073709551616 := by
  induction l with
  | nil => intro h h0 h1; exact ⟨h0, h1⟩
  | cons c l ih =>
    intro h h0 h1
    show 0 ≤ hashL l (stepH h c) ∧ hashL l (stepH h c) < 18446744073709551616
    apply ih
    · unfold stepH; rw [IntKind.wrap_u64]; omega
    · unfold stepH; rw [IntKind.wrap_u64]; omega
theorem wrap_next {i : Int} {n : Nat} (h0 : 0 ≤ i) (h : i < (n : Int)) (hn : n ≤ 140737488351232) : wrap64 (i + 1) = i + 1 := by
  unfold wrap64
  omega
theorem bt_nat (s : ByteArray) (i : Nat) (hi : i < s.data.toList.length) : bt s (i : Int) = ((s.data.toList[i]).toNat : Int) := by
  unfold bt
  have : (i : Int).toNat < s.size := by have := data_length s; omega
  rw [dif_pos this]
  rfl
theorem more_tells (s : ByteArray) (hn : s.size ≤ 140737488351232) (d : Nat) : ∀ (k i : Nat) (h : Int), i + d = s.size → d < k →
    fnv_More.l0 k h s (s.size : Int) i = some (hashL (s.data.toList.drop i) h) := by
  have hsz : s.data.toList.length = s.size := data_length s
  induction d with
  | zero =>
    intro k i h hd hk
    obtain ⟨k, rfl⟩ : ∃ m, k = m + 1 := ⟨k - 1, by omega⟩
    simp only [fnv_More.l0]
    rw [if_neg (by omega), List.drop_of_length_le (by omega)]
    rfl
  | succ d ih =>
    intro k i h hd hk
    obtain ⟨k, rfl⟩ : ∃ m, k = m + 1 := ⟨k - 1, by omega⟩
    have hlt : i < s.data.toList.length := by omega
    simp only [fnv_More.l0]
    rw [if_pos (by omega), if_pos (by omega), if_pos (by omega), wrap_next (by omega) (by omega) hn, bt_nat s i hlt]
    have := ih k (i + 1) (stepH h s.data.toList[i]) (by omega) (by omega)
    rw [List.drop_eq_getElem_cons hlt]
    exact this
theorem ref_tells (s : ByteArray) (hn : s.size ≤ 140737488351232) (d : Nat) : ∀ (k i : Nat) (h : Int), i + d = s.size → d < k →
    muleteerref20_More.l0 k h s i = some (hashL (s.data.toList.drop i) h) := by
  have hsz : s.data.toList.length = s.size := data_length s
  induction d with
  | zero =>
    intro k i h hd hk
    obtain ⟨k, rfl⟩ : ∃ m, k = m + 1 := ⟨k - 1, by omega⟩
    simp only [muleteerref20_More.l0]
    rw [if_neg (by omega), List.drop_of_length_le (by omega)]
    rfl
  | succ d ih =>
    intro k i h hd hk
    obtain ⟨k, rfl⟩ : ∃ m, k = m + 1 := ⟨k - 1, by omega⟩
    have hlt : i < s.data.toList.length := by omega
    simp only [muleteerref20_More.l0]
    rw [if_pos (by omega), if_pos (by omega), wrap_next (by omega) (by omega) hn, bt_nat s i hlt]
    have := ih k (i + 1) (stepH h s.data.toList[i]) (by omega) (by omega)
    rw [List.drop_eq_getElem_cons hlt]
    exact this
theorem more_all (s : ByteArray) (k : Nat) (h : Int) (hn : s.size ≤ 140737488351232) (hk : s.size < k) : fnv_More.f k h s = some (hashL s.data.toList h) :=
  more_tells s hn s.size k 0 h (by omega) hk
theorem ref_all (s : ByteArray) (k : Nat) (h : Int) (hn : s.size ≤ 140737488351232) (hk : s.size < k) : muleteerref20_More.f k h s = some (hashL s.data.toList h) :=
  ref_tells s hn s.size k 0 h (by omega) hk
theorem sum_all (s : ByteArray) (k : Nat) (hn : s.size ≤ 140737488351232) (hk : s.size < k) : fnv_Sum.f k s = some (hashL s.data.toList 14695981039346656037) := by
  unfold fnv_Sum.f
  rw [more_all s k _ hn hk]
  rfl
theorem awake_tells (k : Nat) (hk : 1 < k) : muleteerlaw20_awake.f k = some true := by
  unfold muleteerlaw20_awake.f
  rw [sum_all _ k (by decide) (by show 0 < k; omega)]
  simp only [Option.bind_some]
  rw [if_pos (by rfl), sum_all _ k (by decide) (by show 1 < k; omega)]
  simp only [Option.bind_some]
  have : hashL (⟨#[97]⟩ : ByteArray).data.toList 14695981039346656037 = 12638187200555641996 := by decide +kernel
  rw [this]
  rfl

/-! #### a key's shard -/
/-- The bytes of a key. -/
def keyNums (x y z : Int) : List Int := numNums (IntKind.u64.wrap x).toNat ++ numNums (IntKind.u64.wrap y).toNat ++ numNums z.toNat
def keyHash (x y z : Int) : Int := hashL (strOfNums (keyNums x y z)).data.toList 14695981039346656037
theorem wrapU (x : Int) : 0 ≤ IntKind.u64.wrap x ∧ IntKind.u64.wrap x < 18446744073709551616 := by rw [IntKind.wrap_u64]; omega
theorem num_size (n : Nat) : (strOfNums (numNums n)).size ≤ 9 := by rw [strOfNums_size]; exact numNums_length n
theorem digit_f (x : Int) (h : 0 ≤ x ∧ x < 18446744073709551616) : digit_Num.f x = some (strOfNums (numNums x.toNat)) := by
  unfold digit_Num.f; rw [if_pos h]
theorem refNum_int (x : Int) (h : 0 ≤ x ∧ x < 18446744073709551616) (k : Nat) (hk : 8 < k) : muleteerref01_Num.f k x = some (strOfNums (numNums x.toNat)) := by
  obtain ⟨n, rfl⟩ := Int.eq_ofNat_of_zero_le h.1
  exact refNum_f n (by omega) k hk
theorem hash_append (a b : List Int) (h : Int) : hashL (strOfNums (a ++ b)).data.toList h = hashL (strOfNums b).data.toList (hashL (strOfNums a).data.toList h) := by
  simp [strOfNums_data, hashL, List.foldl_append]
theorem key_f (x y z : Int) (hz : 0 ≤ z ∧ z < 18446744073709551616) (k : Nat) (hk : 30 < k) : fnv_Key.f k x y z = some (keyHash x y z) := by
  unfold fnv_Key.f
  have s1 := num_size (IntKind.u64.wrap x).toNat
  have s2 := num_size (IntKind.u64.wrap y).toNat
  have s3 := num_size z.toNat
  rw [digit_f _ (wrapU x), Option.bind_some, sum_all _ _ (by omega) (by omega), Option.bind_some, digit_f _ (wrapU y), Option.bind_some, more_all _ _ _ (by omega) (by omega), Option.bind_some, digit_f _ hz, Option.bind_some,
    more_all _ _ _ (by omega) (by omega), Option.bind_some]
  unfold keyHash keyNums
  rw [hash_append, hash_append]
theorem keyHash_range (x y z : Int) : 0 ≤ keyHash x y z ∧ keyHash x y z < 18446744073709551616 := hashL_range _ _ (by omega) (by omega)
/-- The reference's way to the same hash. -/
theorem ref_key (x y z : Int) (hz : 0 ≤ z ∧ z < 18446744073709551616) (k : Nat) (hk : 30 < k) {α : Type} (g : Int → Option α) :
    ((muleteerref01_Num.f k (IntKind.u64.wrap x)).bind fun t114 => ((muleteerref01_Num.f k (IntKind.u64.wrap y)).bind fun t115 => (if t114.size + t115.size ≤ 9223372036854775807 then ((muleteerref01_Num.f k z).bind fun t116 => (if t114.size + t115.size + t116.size ≤ 9223372036854775807 then ((muleteerref20_More.f k 14695981039346656037 ((t114 ++ t115) ++ t116)).bind g) else (none))) else (none)))) = g (keyHash x y z) := by
  have s1 := num_size (IntKind.u64.wrap x).toNat
  have s2 := num_size (IntKind.u64.wrap y).toNat
  have s3 := num_size z.toNat
  rw [refNum_int _ (wrapU x) k (by omega), Option.bind_some, refNum_int _ (wrapU y) k (by omega), Option.bind_some, if_pos (by omega), refNum_int _ hz k (by omega), Option.bind_some, if_pos (by omega), strOfNums_append, strOfNums_append]
  have s4 : (strOfNums (numNums (IntKind.u64.wrap x).toNat ++ numNums (IntKind.u64.wrap y).toNat ++ numNums z.toNat)).size ≤ 27 := by
    rw [strOfNums_size] at *
    simp
    omega
  rw [ref_all _ _ _ (by omega) (by omega), Option.bind_some]
  rfl
/-- In which shard a key stands, of `n`. -/
def shardOf (n x y z : Int) : Int := keyHash x y z % n
theorem shardOf_range (n x y z : Int) (hn : 1 ≤ n) : 0 ≤ shardOf n x y z ∧ shardOf n x y z < n :=
  ⟨Int.emod_nonneg _ (by omega), Int.emod_lt_of_pos _ (by omega)⟩
theorem wrapped_mod (n x y z : Int) (hn : 1 ≤ n) (hn2 : n ≤ 9223372036854775807) : IntKind.u64.wrap n = n ∧ wrap64 (Int.tmod (keyHash x y z) n) = shardOf n x y z := by
  have h := keyHash_range x y z
  have hr := shardOf_range n x y z hn
  refine ⟨by rw [IntKind.wrap_u64]; omega, ?_⟩
  rw [Int.tmod_eq_emod_of_nonneg h.1]
  show wrap64 (shardOf n x y z) = _
  unfold wrap64
  omega
theorem shard_f (n x y z : Int) (hn : 1 ≤ n) (hn2 : n ≤ 9223372036854775807) (hz : 0 ≤ z ∧ z < 18446744073709551616) (k : Nat) (hk : 30 < k) : fnv_Shard.f k x y z n = some (shardOf n x y z) := by
  unfold fnv_Shard.f
  obtain ⟨e1, e2⟩ := wrapped_mod n x y z hn hn2
  rw [if_neg (by omega), key_f x y z hz k hk, Option.bind_some, e1, if_neg (by omega), e2]
theorem refShard_f (n x y z : Int) (hn : 1 ≤ n) (hn2 : n ≤ 9223372036854775807) (hz : 0 ≤ z ∧ z < 18446744073709551616) (k : Nat) (hk : 30 < k) : muleteerref20_Shard.f k x y z n = some (shardOf n x y z) := by
  unfold muleteerref20_Shard.f
  obtain ⟨e1, e2⟩ := wrapped_mod n x y z hn hn2
  rw [ref_key x y z hz k hk, e1, if_neg (by omega), e2]
theorem shard_none (n x y z : Int) (hn : n < 1) (k : Nat) : fnv_Shard.f k x y z n = some (-1) := by
  unfold fnv_Shard.f; rw [if_pos hn]

/-- A key's shard, of `n`. -/
def shOf (n : Int) (x : S29) : Int := shardOf n x.f0 x.f1 x.f2
def cnt (n : Int) (l : List S29) (i : Nat) : Nat := l.countP fun x => decide (shOf n x = (i : Int))
def counts (n : Int) (l : List S29) : List Int := (List.range n.toNat).map fun i => ((cnt n l i : Nat) : Int)
theorem counts_length (n : Int) (l : List S29) : (counts n l).length = n.toNat := by simp [counts]
theorem counts_rd (n : Int) (l : List S29) (i : Nat) (hi : i < n.toNat) : rd (counts n l) (i : Int) = ((cnt n l i : Nat) : Int) := by
  simp [rd, counts, List.getD_eq_getElem?_getD, hi]
theorem cnt_le (n : Int) (l : List S29) (i : Nat) : cnt n l i ≤ l.length := List.countP_le_length
theorem cnt_snoc (n : Int) (l : List S29) (x : S29) (i : Nat) : cnt n (l ++ [x]) i = cnt n l i + if shOf n x = (i : Int) then 1 else 0 := by
  simp [cnt, List.countP_append, List.countP_cons]
theorem counts_set (n : Int) (l : List S29) (x : S29) (hl : l.length ≤ 100) (hr : 0 ≤ shOf n x ∧ shOf n x < n) :
    (counts n l).set (shOf n x).toNat (wrap64 (rd (counts n l) (shOf n x) + 1)) = counts n (l ++ [x]) := by
  obtain ⟨m, hm⟩ := Int.eq_ofNat_of_zero_le hr.1
  have hmn : m < n.toNat := by omega
  rw [hm, counts_rd n l m hmn, Int.toNat_natCast]
  have hc := cnt_le n l m
  have hw : wrap64 (((cnt n l m : Nat) : Int) + 1) = ((cnt n l m + 1 : Nat) : Int) := by unfold wrap64; omega
  rw [hw]
  apply List.ext_getElem
  · simp [counts]
  · intro i h1 h2
    simp only [counts, List.length_set, List.length_map, List.length_range] at h1
    rw [List.getElem_set]
    simp only [counts, List.getElem_map, List.getElem_range]
    rw [cnt_snoc, hm]
    by_cases e : m = i
    · subst e; simp
    · rw [if_neg e, if_neg (by omega)]; rfl
theorem rd_at (l : List S29) (i : Nat) (hi : i < l.length) : rd_T29 l (i : Int) = l[i] := by
  simp [rd_T29, List.getD_eq_getElem?_getD, hi]
section
variable (n : Int) (h1 : 1 ≤ n) (h8 : n ≤ 8) (l : List S29) (hl : l.length ≤ 100) (hz : ∀ x ∈ l, 0 ≤ x.f2 ∧ x.f2 < 18446744073709551616)
include h1 h8 hl hz
theorem spread_l0 (d : Nat) : ∀ k i, i + d = l.length → d + 40 < k → fnv_Spread.l0 k n (counts n (l.take i)) l (l.length : Int) (i : Int) = some (counts n l) := by
  induction d with
  | zero =>
    intro k i hi hk
    obtain ⟨k, rfl⟩ : ∃ m, k = m + 1 := ⟨k - 1, by omega⟩
    simp only [fnv_Spread.l0]
    rw [if_neg (by omega), List.take_of_length_le (by omega)]
  | succ d ih =>
    intro k i hi hk
    obtain ⟨k, rfl⟩ : ∃ m, k = m + 1 := ⟨k - 1, by omega⟩
    have hil : i < l.length := by omega
    have hx := hz l[i] (List.getElem_mem hil)
    have hr := shardOf_range n l[i].f0 l[i].f1 l[i].f2 h1
    have hw : wrap64 ((i : Int) + 1) = ((i + 1 : Nat) : Int) := by unfold wrap64; omega
    simp only [fnv_Spread.l0]
    rw [if_pos (by omega), if_pos (by omega), if_pos (by omega), rd_at l i hil, shard_f n _ _ _ h1 (by omega) hx k (by omega), Option.bind_some, if_pos hr.1, if_pos (by rw [counts_length]; omega), hw]
    have hs := counts_set n (l.take i) l[i] (by rw [List.length_take]; omega) hr
    have ht : l.take (i + 1) = l.take i ++ [l[i]] := by rw [List.take_succ_eq_append_getElem hil]
    rw [← ht] at hs
    unfold shOf at hs
    rw [hs]
    exact ih k (i + 1) (by omega) (by omega)
theorem spread_f (k : Nat) (hk : 200 < k) : fnv_Spread.f k l n = some (counts n l) := by
  unfold fnv_Spread.f
  obtain ⟨k, rfl⟩ : ∃ m, k = m + 1 := ⟨k - 1, by omega⟩
  have hd : decide (n > 8) = false := decide_eq_false (by omega)
  rw [if_neg (by omega), hd]
  simp only [fnv_Spread.j0]
  rw [if_neg (by decide), if_pos (by omega), if_pos (by omega)]
  have h0 : List.replicate n.toNat (0 : Int) = counts n (l.take 0) := by
    apply List.ext_getElem
    · simp [counts]
    · intro i _ _; simp [counts, cnt]
  rw [h0]
  exact spread_l0 n h1 h8 l hl hz l.length k 0 (by omega) (by omega)
theorem law_l1 (cs : List Int) (s : Int) (i : Nat) (hi : i < n.toNat) (hcs : cs = counts n l) (K : Nat) (hnext : ∀ k, K ≤ k → muleteerlaw20_FnvSpreads.l0 k l n cs (wrap64 (s + (cnt n l i : Nat))) (wrap64 ((i : Int) + 1)) = some true) (d : Nat) :
    ∀ k j, j + d = l.length → K + d + 40 < k → muleteerlaw20_FnvSpreads.l1 k l n cs s (i : Int) ((cnt n (l.take j) i : Nat) : Int) (j : Int) = some true := by
  induction d with
  | zero =>
    intro k j hj hk
    obtain ⟨k, rfl⟩ : ∃ m, k = m + 1 := ⟨k - 1, by omega⟩
    simp only [muleteerlaw20_FnvSpreads.l1]
    rw [if_neg (by omega), if_pos (by omega), if_pos (by rw [hcs, counts_length]; omega), List.take_of_length_le (by omega)]
    rw [if_pos (by rw [hcs]; exact counts_rd n l i hi)]
    exact hnext k (by omega)
  | succ d ih =>
    intro k j hj hk
    obtain ⟨k, rfl⟩ : ∃ m, k = m + 1 := ⟨k - 1, by omega⟩
    have hjl : j < l.length := by omega
    have hx := hz l[j] (List.getElem_mem hjl)
    have hw : wrap64 ((j : Int) + 1) = ((j + 1 : Nat) : Int) := by unfold wrap64; omega
    have hc := cnt_le n (l.take j) i
    rw [List.length_take] at hc
    have ht : l.take (j + 1) = l.take j ++ [l[j]] := by rw [List.take_succ_eq_append_getElem hjl]
    have hs := cnt_snoc n (l.take j) l[j] i
    rw [← ht] at hs
    have hih := ih k (j + 1) (by omega) (by omega)
    simp only [muleteerlaw20_FnvSpreads.l1]
    rw [if_pos (by omega), if_pos (by omega), rd_at l j hjl, refShard_f n _ _ _ h1 (by omega) hx k (by omega), Option.bind_some, hw]
    by_cases e : shardOf n l[j].f0 l[j].f1 l[j].f2 = (i : Int)
    · have hw2 : wrap64 (((cnt n (l.take j) i : Nat) : Int) + 1) = ((cnt n (l.take j) i + 1 : Nat) : Int) := by unfold wrap64; omega
      rw [if_pos e, hw2]
      rw [hs, if_pos (show shOf n l[j] = (i : Int) from e)] at hih
      exact hih
    · rw [if_neg e]
      rw [hs, if_neg (show ¬ shOf n l[j] = (i : Int) from e)] at hih
      exact hih
end
/-- How many stand in the first `i` shards. -/
def sumTo (n : Int) (l : List S29) : Nat → Nat
  | 0 => 0
  | i + 1 => sumTo n l i + cnt n l i
theorem sumTo_cons (n : Int) (x : S29) (l : List S29) (hr : 0 ≤ shOf n x ∧ shOf n x < n) (i : Nat) : sumTo n (x :: l) i = sumTo n l i + if shOf n x < (i : Int) then 1 else 0 := by
  induction i with
  | zero => simp [sumTo]; omega
  | succ i ih =>
    have hc : cnt n (x :: l) i = cnt n l i + if shOf n x = (i : Int) then 1 else 0 := by simp [cnt, List.countP_cons]
    simp only [sumTo]
    rw [ih, hc]
    by_cases e : shOf n x = (i : Int)
    · rw [if_pos e, if_neg (by omega), if_pos (by omega)]; omega
    · rw [if_neg e]
      by_cases e2 : shOf n x < (i : Int)
      · rw [if_pos e2, if_pos (by omega)]; omega
      · rw [if_neg e2, if_neg (by omega)]; omega
theorem sumTo_all (n : Int) (h1 : 1 ≤ n) (l : List S29) : sumTo n l n.toNat = l.length := by
  induction l with
  | nil =>
    have : ∀ i, sumTo n [] i = 0 := by intro i; induction i with
      | zero => rfl
      | succ i ih => simp [sumTo, ih, cnt]
    simp [this]
  | cons x l ih =>
    have hr : 0 ≤ shOf n x ∧ shOf n x < n := shardOf_range n x.f0 x.f1 x.f2 h1
    rw [sumTo_cons n x l hr, ih, if_pos (by omega)]
    rfl
theorem sumTo_le (n : Int) (h1 : 1 ≤ n) (l : List S29) (i : Nat) (hi : i ≤ n.toNat) : sumTo n l i ≤ l.length := by
  rw [← sumTo_all n h1 l]
  have : ∀ d, sumTo n l i ≤ sumTo n l (i + d) := by
    intro d
    induction d with
    | zero => exact Nat.le_refl _
    | succ d ih => exact Nat.le_trans ih (show sumTo n l (i + d) ≤ sumTo n l (i + d) + cnt n l (i + d) by omega)
  have h := this (n.toNat - i)
  rwa [show i + (n.toNat - i) = n.toNat from by omega] at h
section
variable (n : Int) (h1 : 1 ≤ n) (h8 : n ≤ 8) (l : List S29) (hl : l.length ≤ 100) (hz : ∀ x ∈ l, 0 ≤ x.f2 ∧ x.f2 < 18446744073709551616)
include h1 h8 hl hz
theorem law_l0 (e : Nat) : ∀ k i, i + e = n.toNat → e * 200 + 40 < k → muleteerlaw20_FnvSpreads.l0 k l n (counts n l) ((sumTo n l i : Nat) : Int) (i : Int) = some true := by
  induction e with
  | zero =>
    intro k i hi hk
    obtain ⟨k, rfl⟩ : ∃ m, k = m + 1 := ⟨k - 1, by omega⟩
    simp only [muleteerlaw20_FnvSpreads.l0]
    have hin : i = n.toNat := by omega
    rw [if_neg (by omega), awake_tells k (by omega), Option.bind_some, if_pos rfl, hin, sumTo_all n h1 l]
    simp
  | succ e ih =>
    intro k i hi hk
    obtain ⟨k, rfl⟩ : ∃ m, k = m + 1 := ⟨k - 1, by omega⟩
    simp only [muleteerlaw20_FnvSpreads.l0]
    rw [if_pos (by omega)]
    have hw : wrap64 ((i : Int) + 1) = ((i + 1 : Nat) : Int) := by unfold wrap64; omega
    have hs : wrap64 (((sumTo n l i : Nat) : Int) + (cnt n l i : Nat)) = ((sumTo n l (i + 1) : Nat) : Int) := by
      have h2 := sumTo_le n h1 l (i + 1) (by omega)
      simp only [sumTo] at h2 ⊢
      unfold wrap64
      omega
    have := law_l1 n h1 h8 l hl hz (counts n l) ((sumTo n l i : Nat) : Int) i (by omega) rfl (e * 200 + 41) (fun k' hk' => by rw [hw, hs]; exact ih k' (i + 1) (by omega) (by omega)) l.length k 0 (by omega) (by omega)
    simpa [cnt] using this
end
theorem FnvSpreads : muleteerlaw20_FnvSpreads.Pure := by
  intro l n hl hn
  have hz : ∀ x ∈ l, 0 ≤ x.f2 ∧ x.f2 < 18446744073709551616 := by
    intro x hx
    have h2 := (hl.2 x hx).2.2
    have hmin : IntKind.u64.min = 0 := rfl
    have hmax : IntKind.u64.max = 18446744073709551615 := rfl
    simp only [Lit.wf, Bool.and_eq_true, decide_eq_true_eq] at h2
    omega
  refine ⟨2001, ?_⟩
  unfold muleteerlaw20_FnvSpreads.f
  by_cases h100 : (l.length : Int) > 100
  · rw [if_pos h100, awake_tells _ (by omega)]; rfl
  · rw [if_neg h100]
    by_cases h1 : n < 1
    · have hsp : fnv_Spread.f 2001 l n = some [] := by
        unfold fnv_Spread.f
        rw [if_pos h1]
        simp only [fnv_Spread.j0]
        rfl
      rw [hsp, Option.bind_some, if_pos h1]
      simp only [muleteerlaw20_FnvSpreads.j0]
      rw [if_pos trivial, awake_tells _ (by omega)]
      rfl
    · by_cases h8 : n > 8
      · have hd : decide (n > 8) = true := decide_eq_true h8
        have hsp : fnv_Spread.f 2001 l n = some [] := by
          unfold fnv_Spread.f
          rw [if_neg h1, hd]
          simp only [fnv_Spread.j0]
          rfl
        rw [hsp, Option.bind_some, if_neg h1, hd]
        simp only [muleteerlaw20_FnvSpreads.j0]
        rw [if_pos trivial, awake_tells _ (by omega)]
        rfl
      · have hd : decide (n > 8) = false := decide_eq_false h8
        rw [spread_f n (by omega) (by omega) l (by omega) hz _ (by omega), Option.bind_some, if_neg h1, hd]
        simp only [muleteerlaw20_FnvSpreads.j0]
        rw [if_neg (by decide), if_pos (by rw [counts_length]; omega)]
        exact law_l0 n (by omega) (by omega) l (by omega) hz n.toNat 2000 0 (by omega) (by omega)

end Go.Proofs.Ytkbobgkjlpgcaaa.Pure
