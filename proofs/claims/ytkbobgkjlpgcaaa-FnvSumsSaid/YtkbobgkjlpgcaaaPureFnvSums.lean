/- The hash of any bytes is the reference's, wherever the bytes are cut: for every text, cut and number. -/
import Derived.Test.YtkbobgkjlpgcaaaPFnvSumsx2
namespace Go.Proofs.Ytkbobgkjlpgcaaa.Pure
open Go.RowKit Go.Proofs.Ytkbobgkjlpgcaaa.PFnvSums Go.Proofs.YtkbobgkjlpgcaaaW.PrintWords Go.Proofs.YtkbobgkjlpgcaaaW.PrintLast

/-- One byte more. -/
def stepH (h c : Int) : Int := IntKind.u64.wrap ((Go.bits .xor .u64 h (IntKind.u64.wrap c)) * 1099511628211)

/-- `d` bytes from place `i` on. -/
def run (s : ByteArray) : Nat → Int → Int → Int
  | 0, _, h => h
  | d + 1, i, h => run s d (i + 1) (stepH h (bt s i))

theorem run_add (s : ByteArray) (d e : Nat) : ∀ (i h : Int), run s (d + e) i h = run s e (i + d) (run s d i h) := by
  induction d with
  | zero => intro i h; simp [run]
  | succ d ih =>
    intro i h
    rw [show d + 1 + e = (d + e) + 1 from by omega]
    simp only [run]
    rw [ih]
    congr 1
    omega

theorem wrap_next {i : Int} {n : Nat} (h0 : 0 ≤ i) (h : i < (n : Int)) (hn : n ≤ 140737488351232) : wrap64 (i + 1) = i + 1 := by
  unfold wrap64
  omega

theorem more_tells (s : ByteArray) (hn : s.size ≤ 140737488351232) (d : Nat) : ∀ (k : Nat) (i h : Int), 0 ≤ i → i + d = s.size → d < k →
    fnv_More.l0 k h s (s.size : Int) i = some (run s d i h) := by
  induction d with
  | zero =>
    intro k i h h0 hd hk
    obtain ⟨k, rfl⟩ : ∃ m, k = m + 1 := ⟨k - 1, by omega⟩
    simp only [fnv_More.l0, run]; rw [if_neg (by omega)]
  | succ d ih =>
    intro k i h h0 hd hk
    obtain ⟨k, rfl⟩ : ∃ m, k = m + 1 := ⟨k - 1, by omega⟩
    have hlt : i < (s.size : Int) := by omega
    simp only [fnv_More.l0, run]; rw [if_pos hlt, if_pos h0, if_pos hlt, wrap_next h0 hlt hn]
    exact ih k (i + 1) _ (by omega) (by omega) (by omega)

theorem ref_tells (s : ByteArray) (hn : s.size ≤ 140737488351232) (d : Nat) : ∀ (k : Nat) (i h : Int), 0 ≤ i → i + d = s.size → d < k →
    muleteerref20_More.l0 k h s i = some (run s d i h) := by
  induction d with
  | zero =>
    intro k i h h0 hd hk
    obtain ⟨k, rfl⟩ : ∃ m, k = m + 1 := ⟨k - 1, by omega⟩
    simp only [muleteerref20_More.l0, run]; rw [if_neg (by omega)]
  | succ d ih =>
    intro k i h h0 hd hk
    obtain ⟨k, rfl⟩ : ∃ m, k = m + 1 := ⟨k - 1, by omega⟩
    have hlt : i < (s.size : Int) := by omega
    simp only [muleteerref20_More.l0, run]; rw [if_pos hlt, if_pos h0, wrap_next h0 hlt hn]
    exact ih k (i + 1) _ (by omega) (by omega) (by omega)

theorem more_all (s : ByteArray) (hn : s.size ≤ 140737488351232) (k : Nat) (h : Int) (hk : s.size < k) : fnv_More.f k h s = some (run s s.size 0 h) :=
  more_tells s hn s.size k 0 h (by omega) (by omega) hk
theorem ref_all (s : ByteArray) (hn : s.size ≤ 140737488351232) (k : Nat) (h : Int) (hk : s.size < k) : muleteerref20_More.f k h s = some (run s s.size 0 h) :=
  ref_tells s hn s.size k 0 h (by omega) (by omega) hk
theorem sum_all (s : ByteArray) (hn : s.size ≤ 140737488351232) (k : Nat) (hk : s.size < k) : fnv_Sum.f k s = some (run s s.size 0 14695981039346656037) := by
  unfold fnv_Sum.f
  rw [more_all s hn k _ hk]
  rfl

theorem bt_extract (s : ByteArray) (a b : Nat) (hb : b ≤ s.size) (i : Int) (h0 : 0 ≤ i) (hi : i < (b : Int) - a) : bt (s.extract a b) i = bt s (a + i) := by
  unfold bt
  have hs : (s.extract a b).size = b - a := by simp [ByteArray.size_extract]; omega
  have e : ((a : Int) + i).toNat = a + i.toNat := by omega
  have l1 : i.toNat < (s.extract a b).size := by omega
  have l2 : ((a : Int) + i).toNat < s.size := by omega
  rw [dif_pos l1, dif_pos l2]
  simp only [e]
  rw [ByteArray.getElem_extract]

theorem run_extract (s : ByteArray) (a b : Nat) (hb : b ≤ s.size) (d : Nat) : ∀ (i h : Int), 0 ≤ i → i + d ≤ (b : Int) - a → run (s.extract a b) d i h = run s d (a + i) h := by
  induction d with
  | zero => intro i h _ _; rfl
  | succ d ih =>
    intro i h h0 hd
    simp only [run]
    rw [bt_extract s a b hb i h0 (by omega), ih (i + 1) _ (by omega) (by omega)]
    congr 1
    omega

theorem awake_tells (k : Nat) (hk : 1 < k) : muleteerlaw20_awake.f k = some true := by
  unfold muleteerlaw20_awake.f
  rw [sum_all _ (by decide) k (by show 0 < k; omega)]
  simp only [Option.bind_some]
  rw [if_pos (by rfl), sum_all _ (by decide) k (by show 1 < k; omega)]
  simp only [Option.bind_some]
  have : run (⟨#[97]⟩ : ByteArray) (⟨#[97]⟩ : ByteArray).size 0 14695981039346656037 = 12638187200555641996 := by decide +kernel
  rw [this]
  rfl

theorem FnvSums : muleteerlaw20_FnvSums.Pure := by
  intro s at_ hash hn hat hh
  refine ⟨s.size + 2, ?_⟩
  have haw := awake_tells (s.size + 2) (by omega)
  unfold muleteerlaw20_FnvSums.f
  by_cases h5 : (s.size : Int) > 500
  · rw [if_pos h5, haw]; rfl
  · rw [if_neg h5]
    have hw1 : wrap64 ((s.size : Int) + 1) = (s.size : Int) + 1 := by unfold wrap64; omega
    have hb : 0 ≤ at_ ∧ at_ ≤ 65535 := by
      have hmin : IntKind.u16.min = 0 := rfl
      have hmax : IntKind.u16.max = 65535 := rfl
      simp only [Lit.wf, Bool.and_eq_true, decide_eq_true_eq] at hat
      omega
    have hw2 : wrap64 at_ = at_ := by unfold wrap64; omega
    rw [hw1, hw2, if_neg (by omega), haw]
    simp only [Option.bind_some]
    rw [if_pos trivial, sum_all s hn _ (by omega)]
    simp only [Option.bind_some]
    rw [ref_all s hn _ _ (by omega)]
    simp only [Option.bind_some]
    rw [if_pos trivial]
    have hm := Int.emod_nonneg at_ (show (s.size : Int) + 1 ≠ 0 by omega)
    have hm2 := Int.emod_lt_of_pos at_ (show (0 : Int) < (s.size : Int) + 1 by omega)
    have ht : Int.tmod at_ ((s.size : Int) + 1) = at_ % ((s.size : Int) + 1) := Int.tmod_eq_emod_of_nonneg hb.1
    rw [ht]
    obtain ⟨m, hmm⟩ := Int.eq_ofNat_of_zero_le hm
    rw [hmm] at hm2 ⊢
    rw [if_pos (by omega), if_pos (by omega), Int.toNat_natCast]
    have hms : m ≤ s.size := by omega
    have z1 : (s.extract 0 m).size = m := by simp [ByteArray.size_extract]; omega
    have z2 : (s.extract m s.size).size = s.size - m := by simp [ByteArray.size_extract]
    rw [sum_all (s.extract 0 m) (by omega) _ (by omega)]
    simp only [Option.bind_some]
    rw [more_all (s.extract m s.size) (by omega) _ _ (by omega)]
    simp only [Option.bind_some]
    rw [z1, z2]
    rw [run_extract s 0 m hms m 0 _ (by omega) (by omega), run_extract s m s.size (Nat.le_refl _) (s.size - m) 0 _ (by omega) (by omega)]
    have hadd := run_add s m (s.size - m) 0 14695981039346656037
    rw [show m + (s.size - m) = s.size from by omega] at hadd
    rw [show ((m : Nat) : Int) + 0 = 0 + (m : Int) from by omega, show (((0 : Nat) : Int) + 0) = 0 from rfl, ← hadd]
    rw [if_pos rfl, more_all s hn _ _ (by omega)]
    simp only [Option.bind_some]
    rw [ref_all s hn _ _ (by omega)]
    simp

end Go.Proofs.Ytkbobgkjlpgcaaa.Pure
