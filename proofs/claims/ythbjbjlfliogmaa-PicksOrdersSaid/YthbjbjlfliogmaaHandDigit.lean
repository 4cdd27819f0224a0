/- digit.Num: the bytes of a number: how many there are, then they, the greatest first. For every number of 64 bits. -/
import Derived.Test.YthbjbjlfliogmaaHand0
namespace Go.Proofs.Ythbjbjlfliogmaa.Hand
open Go.RowKit Go.Proofs.YthbjbjlfliogmaaW.PrintWords Go.Proofs.YthbjbjlfliogmaaW.PrintLast
set_option linter.unusedVariables false
set_option linter.unusedSimpArgs false

/-- How many bytes a number has. -/
def nbF : Nat → Nat → Nat
  | 0, _ => 0
  | f + 1, n => if n = 0 then 0 else nbF f (n / 256) + 1
def nb (n : Nat) : Nat := nbF 8 n
/-- Its last `j` bytes, the greatest first. -/
def beNums (n j : Nat) : List Int := (List.range j).map fun i => ((n / 256 ^ (j - 1 - i) % 256 : Nat) : Int)
/-- The bytes of a number. -/
def numNums (n : Nat) : List Int := ((nb n : Nat) : Int) :: beNums n (nb n)

theorem nbF_eq (f : Nat) : ∀ (n j : Nat), j ≤ f → (∀ i, i < j → 0 < n / 256 ^ i) → n / 256 ^ j = 0 → nbF f n = j := by
  induction f with
  | zero => intro n j hj _ _; simp only [nbF]; omega
  | succ f ih =>
    intro n j hj hp hz
    simp only [nbF]
    rcases j with _ | j
    · simp at hz; rw [if_pos hz]
    · have h0 := hp 0 (by omega)
      simp at h0
      have hz' : n / 256 / 256 ^ j = 0 := by rwa [Nat.pow_succ, Nat.mul_comm, ← Nat.div_div_eq_div_mul] at hz
      have hp' : ∀ i, i < j → 0 < n / 256 / 256 ^ i := fun i hi => by
        have := hp (i + 1) (by omega)
        rwa [Nat.pow_succ, Nat.mul_comm, ← Nat.div_div_eq_div_mul] at this
      rw [if_neg (by omega), ih (n / 256) j (by omega) hp' hz']
theorem nb_eq (n j : Nat) (hj : j ≤ 8) (hp : ∀ i, i < j → 0 < n / 256 ^ i) (hz : n / 256 ^ j = 0) : nb n = j := nbF_eq 8 n j hj hp hz

/-- The cells of the array behind `j` rounds: the last `j` are the last bytes of the number. -/
def digCells (n j : Nat) : Array Value := Array.ofFn (n := 9) fun i => .int .u8 (if 9 ≤ i.val + j then ((n / 256 ^ (8 - i.val) % 256 : Nat) : Int) else 0)
theorem digCells_zero (n : Nat) : digCells n 0 = #[.int .u8 0, .int .u8 0, .int .u8 0, .int .u8 0, .int .u8 0, .int .u8 0, .int .u8 0, .int .u8 0, .int .u8 0] := by
  simp [digCells, Array.ofFn_succ]
theorem digCells_get (n j i : Nat) (hi : i < 9) : (digCells n j)[i]? = some (.int .u8 (if 9 ≤ i + j then ((n / 256 ^ (8 - i) % 256 : Nat) : Int) else 0)) := by
  simp [digCells, hi]
theorem digCells_set (n j : Nat) (hj : j < 8) : (digCells n j).setIfInBounds (8 - j) (.int .u8 ((n / 256 ^ j % 256 : Nat) : Int)) = digCells n (j + 1) := by
  apply Array.ext
  · simp [digCells]
  · intro i h1 h2
    simp only [digCells, Array.size_setIfInBounds, Array.size_ofFn] at h1
    rw [Array.getElem_setIfInBounds (by simpa [digCells] using h1)]
    simp only [digCells, Array.getElem_ofFn]
    by_cases e : 8 - j = i
    · rw [if_pos e, if_pos (by omega)]
      have : 8 - i = j := by omega
      rw [this]
    · rw [if_neg e]
      by_cases k : 9 ≤ i + j
      · rw [if_pos k, if_pos (by omega)]
      · rw [if_neg k, if_neg (by omega)]

theorem num_slice (B j : Nat) (hj : j ≤ 8) (W : World) :
    (Instr.sliceAt 85 (.pointer (some ⟨B, 0, none⟩)) (some (.int .i64 (8 - (j : Int)))) none none).run Try.prog W = .ok (.slice (some ⟨B, 8 - j, none⟩) (j + 1) (j + 1)) W := by
  have hl : Try.prog.arrayLen 85 = 9 := by kernel_rfl
  have he : Try.prog.elem 85 = 5 := by kernel_rfl
  have hs : (sizeOf 5).run Try.prog W = .ok 1 W := by kernel_rfl
  have ht : Try.prog.underlying 85 = some (.array (Try.prog.arrayLen 85) (Try.prog.elem 85)) := by rw [hl, he]; exact Try.underlying85
  rw [run_sliceAt_array_l W _ _ ht _ _ (by omega) (by rw [hl]; omega), he, hs]
  simp only [Result.andThen, slicedAt, hl]
  have e : (8 - (j : Int)).toNat = 8 - j := by omega
  rw [e, if_neg (by omega)]
  have e2 : 9 - (8 - j) = j + 1 := by omega
  rw [e2]
  unfold Addr.add
  split
  · rename_i h0
    have : 8 - j = 0 := by omega
    simp [this]
  · simp

theorem num_cells (n j : Nat) (hj : j ≤ 8) (w : World) (i : Nat) (hi : i < j + 1) :
    (w.alloc (.cells ((digCells n j).setIfInBounds (8 - j) (.int .u8 (j : Int))) 85)).cell? ⟨w.heap.size, 8 - j + i, none⟩ = some (.int .u8 (((j : Int) :: beNums n j).getD i 0)) := by
  have hsz : (digCells n j).size = 9 := by simp [digCells]
  simp only [World.cell?, World.alloc]
  simp only [Array.getElem?_push_size]
  rw [Array.getElem?_setIfInBounds]
  rcases i with _ | i
  · simp [hsz, show 8 - j < 9 by omega]
  · rw [if_neg (show ¬ (8 - j = 8 - j + (i + 1)) by omega), digCells_get _ _ _ (by omega), if_pos (show 9 ≤ 8 - j + (i + 1) + j by omega)]
    simp only [List.getD_cons_succ, beNums]
    rw [List.getD_eq_getElem?_getD, List.getElem?_map, List.getElem?_range (by omega)]
    simp only [Option.map_some, Option.getD_some]
    rw [show 8 - (8 - j + (i + 1)) = j - 1 - i from by omega]
    simp

theorem pow_cast (n j : Nat) : ((n / 256 ^ j : Nat) : Int) = (n : Int) / 256 ^ j := by simp

set_option maxHeartbeats 1000000 in
set_option maxRecDepth 100000 in
theorem num_walk (n : Nat) (hn : n < 18446744073709551616) (w : World) :
    Calls Try.prog 12 #[.int .u64 n] w fun e w' => e = .returned (.string (strOfNums (numNums n))) ∧ Below w.heap.size w w' := by
  have h8 : n / 256 ^ 8 = 0 := Nat.div_eq_of_lt (by omega)
  have H8 := Lib.hid h8
  clear h8
  go_enter Try.func12, Try.ntmps12
  go_wp2
  go_loopw [0, 4] (fun v0 v4 wr => ∃ (j : Nat) (m : Nat), j ≤ 8 ∧ v4 = .int .i64 (8 - j) ∧ v0 = .int .u64 (m : Nat) ∧ Hid (m = n / 256 ^ j) ∧ (∀ i, i < j → 0 < n / 256 ^ i) ∧ wr = w.alloc (.cells (digCells n j) 85))
    (fun _ v4 _ => (intOf v4).toNat)
  case atStart =>
    refine ⟨0, n, by omega, rfl, rfl, Lib.hid (by simp), fun i hi => by omega, ?_⟩
    rw [digCells_zero]
  case round =>
    obtain ⟨j, m, hj, rfl, rfl, HM, hp, rfl⟩ := hrel
    have HP := Lib.hid hp
    clear hp
    by_cases hm : 0 < m
    · have hj8 : j < 8 := by
        have := HM.out
        have h8 := H8.out
        rcases Nat.lt_or_ge j 8 with h | h
        · exact h
        · obtain rfl : j = 8 := by omega
          omega
      have hc := digCells_get n j (8 - j) (by omega)
      go_wp2
      go_roundw
      case rel =>
        refine ⟨j + 1, m / 256, by omega, by go_num, by go_num, ?_, fun i hi => ?_, ?_⟩
        · have := HM.out
          refine Lib.hid ?_
          rw [this, Nat.div_div_eq_div_mul, Nat.pow_succ]
        · rcases Nat.lt_or_ge i j with h | h
          · exact HP.out i h
          · obtain rfl : i = j := by omega
            rw [← HM.out]; exact hm
        · rw [← digCells_set n j hj8, ← HM.out]
          simp
      case measure => simp [intOf]; omega
    · have hm0 : m = 0 := by omega
      have hc := digCells_get n j (8 - j) (by omega)
      have hsl := num_slice w.heap.size j hj
      have hcv := run_convert_bytes_arg (P := Try.prog) (w.alloc (.cells ((digCells n j).setIfInBounds (8 - j) (.int .u8 (j : Int))) 85)) 87 5 Try.underlying87 Try.underlying5 w.heap.size (8 - j) (j + 1) (j + 1) ((j : Int) :: beNums n j) (by simp [beNums]) (num_cells n j hj w) 9 Try.underlying9
      have e88 : (8 : Int) - (8 - j) = j := by omega
      have hnb : nb n = j := nb_eq n j hj HP.out (by rw [← HM.out]; exact hm0)
      have HNB := Lib.hid hnb
      clear hnb
      go_wp2
      go_ret
      refine ⟨?_, (Below.refl _ _).alloc (Nat.le_refl _) _⟩
      rw [numNums, HNB.out]; rfl

/-- The same bytes, one by one from behind. -/
def bigE : Nat → Nat → List Int
  | 0, _ => []
  | f + 1, n => if n = 0 then [] else bigE f (n / 256) ++ [((n % 256 : Nat) : Int)]
theorem beNums_succ (n j : Nat) : beNums n (j + 1) = beNums (n / 256) j ++ [((n % 256 : Nat) : Int)] := by
  unfold beNums
  rw [List.range_succ, List.map_append]
  congr 1
  · apply List.map_congr_left
    intro i hi
    have hij := List.mem_range.1 hi
    have e : 256 ^ (j + 1 - 1 - i) = 256 * 256 ^ (j - 1 - i) := by
      rw [show j + 1 - 1 - i = (j - 1 - i) + 1 from by omega, Nat.pow_succ, Nat.mul_comm]
    rw [e, ← Nat.div_div_eq_div_mul]
  · simp
theorem bigE_eq (f : Nat) : ∀ n, bigE f n = beNums n (nbF f n) := by
  induction f with
  | zero => intro n; rfl
  | succ f ih =>
    intro n
    simp only [bigE, nbF]
    by_cases h : n = 0
    · rw [if_pos h, if_pos h]; rfl
    · rw [if_neg h, if_neg h, beNums_succ, ih]
theorem bigE_length (f : Nat) (n : Nat) : (bigE f n).length = nbF f n := by rw [bigE_eq]; simp [beNums]
theorem nbF_le (f : Nat) : ∀ n, nbF f n ≤ f := by
  induction f with
  | zero => intro n; exact Nat.le_refl _
  | succ f ih =>
    intro n
    simp only [nbF]
    split
    · omega
    · have := ih (n / 256); omega
theorem numNums_eq (n : Nat) : numNums n = ((nbF 8 n : Nat) : Int) :: bigE 8 n := by rw [bigE_eq]; rfl
theorem numNums_length (n : Nat) : (numNums n).length ≤ 9 := by
  rw [numNums_eq, List.length_cons, bigE_length]
  have := nbF_le 8 n
  omega

/-- digit.Num, as a plain function. -/
def digit_Num.f (a0 : Int) : Option (ByteArray) := if 0 ≤ a0 ∧ a0 < 18446744073709551616 then some (strOfNums (numNums a0.toNat)) else none
theorem digit_Num.calls (a0 : Int) (r : ByteArray) (w : World) (h : digit_Num.f a0 = some r) :
    Calls Try.prog 12 #[.int .u64 a0] w fun e w' => e = .returned (.string r) ∧ Below w.heap.size w w' := by
  unfold digit_Num.f at h
  by_cases c : 0 ≤ a0 ∧ a0 < 18446744073709551616
  · rw [if_pos c] at h
    obtain rfl := Option.some.inj h
    obtain ⟨n, rfl⟩ := Int.eq_ofNat_of_zero_le c.1
    exact num_walk n (by omega) w
  · rw [if_neg c] at h
    cases h
end Go.Proofs.Ythbjbjlfliogmaa.Hand
