/- A greater number has no fewer bytes, and of as many the greater ones; a reader that nobody made reads nothing: for any two numbers. -/
import Derived.Test.YthbjbjlfliogmaaPDigitRisesx
import Derived.Test.YthbjbjlfliogmaaHandNil01
import Derived.Test.YthbjbjlfliogmaaHandAwake01
namespace Go.Proofs.Ythbjbjlfliogmaa.Pure
open Go.RowKit Go.Proofs.Ythbjbjlfliogmaa.Hand Go.Proofs.Ythbjbjlfliogmaa.PDigitRises Go.Proofs.YthbjbjlfliogmaaW.PrintWords Go.Proofs.YthbjbjlfliogmaaW.PrintLast
set_option linter.unusedVariables false
set_option linter.unusedSimpArgs false

theorem bl_prefix (p : List UInt8) : ∀ a b, Op.bytesLess (p ++ a) (p ++ b) = Op.bytesLess a b := by
  induction p with
  | nil => intro a b; rfl
  | cons c p ih => intro a b; simp [Op.bytesLess, ih]
theorem bl_append : ∀ (a b c d : List UInt8), a.length = b.length → Op.bytesLess a b = true → Op.bytesLess (a ++ c) (b ++ d) = true
  | [], [], _, _, _, h => by simp [Op.bytesLess] at h
  | x :: a, y :: b, c, d, hl, h => by
    simp only [List.cons_append, Op.bytesLess, Bool.or_eq_true, Bool.and_eq_true, decide_eq_true_eq] at h ⊢
    rcases h with h | ⟨h1, h2⟩
    · exact Or.inl h
    · exact Or.inr ⟨h1, bl_append a b c d (by simpa using hl) h2⟩
def byte (n : Int) : UInt8 := UInt8.ofNat n.toNat
def bytesN (xs : List Int) : List UInt8 := xs.map byte
theorem byte_lt (a b : Nat) (ha : a < 256) (hb : b < 256) (h : a < b) : byte (a : Int) < byte (b : Int) := by
  unfold byte
  rw [UInt8.lt_iff_toNat_lt]
  simp [UInt8.toNat_ofNat']
  omega
/-- Of two numbers of as many bytes the smaller one has the smaller bytes. -/
theorem bigE_less (f : Nat) : ∀ m n, m < n → n < 256 ^ f → nbF f m = nbF f n → Op.bytesLess (bytesN (bigE f m)) (bytesN (bigE f n)) = true := by
  induction f with
  | zero => intro m n h hn; simp at hn; omega
  | succ f ih =>
    intro m n h hn he
    simp only [nbF] at he
    by_cases hm : m = 0
    · subst hm
      rw [if_pos rfl, if_neg (by omega)] at he
      omega
    · rw [if_neg hm, if_neg (by omega)] at he
      simp only [bigE]
      rw [if_neg hm, if_neg (by omega)]
      simp only [bytesN, List.map_append, List.map_cons, List.map_nil]
      by_cases hq : m / 256 = n / 256
      · rw [hq]
        rw [bl_prefix]
        simp only [Op.bytesLess, Bool.or_eq_true, decide_eq_true_eq]
        exact Or.inl (byte_lt _ _ (by omega) (by omega) (by omega))
      · refine bl_append _ _ _ _ ?_ ?_
        · rw [List.length_map, List.length_map, bigE_length, bigE_length]; omega
        · exact ih (m / 256) (n / 256) (by omega) (by rw [Nat.pow_succ] at hn; omega) (by omega)
theorem nbF_mono (f : Nat) : ∀ m n, m ≤ n → nbF f m ≤ nbF f n := by
  induction f with
  | zero => intro m n _; exact Nat.le_refl _
  | succ f ih =>
    intro m n h
    simp only [nbF]
    by_cases hm : m = 0
    · rw [if_pos hm]; omega
    · rw [if_neg hm, if_neg (by omega)]
      have := ih (m / 256) (n / 256) (by omega)
      omega
theorem toList_str (xs : List Int) : (strOfNums xs).toList = bytesN xs := by
  rw [ByteArray.toList_eq]
  rfl
def B (n : Nat) : ByteArray := strOfNums (numNums n)
theorem B_size (n : Nat) : (B n).size = nbF 8 n + 1 := by
  unfold B; rw [strOfNums_size, numNums_eq, List.length_cons, bigE_length]
theorem B_list (n : Nat) : (B n).toList = byte (nbF 8 n : Nat) :: bytesN (bigE 8 n) := by
  unfold B; rw [toList_str, numNums_eq]; rfl
/-- What is to be seen of two numbers' bytes. -/
theorem B_rises (m n : Nat) (h : m < n) (hn : n < 18446744073709551616) : (B m).size < (B n).size ∨ ((B m).size = (B n).size ∧ Op.bytesLess (B m).toList (B n).toList = true) := by
  have hm := nbF_mono 8 m n (by omega)
  rw [B_size, B_size]
  rcases Nat.lt_or_ge (nbF 8 m) (nbF 8 n) with h1 | h1
  · exact Or.inl (by omega)
  · have e : nbF 8 m = nbF 8 n := by omega
    refine Or.inr ⟨by omega, ?_⟩
    rw [B_list, B_list, e]
    have := bl_prefix [byte (nbF 8 n : Nat)] (bytesN (bigE 8 m)) (bytesN (bigE 8 n))
    simp only [List.cons_append, List.nil_append] at this
    rw [this]
    exact bigE_less 8 m n h (by omega) e
theorem bl_irrefl : ∀ l, Op.bytesLess l l = false
  | [] => rfl
  | a :: l => by simp [Op.bytesLess, bl_irrefl l]
theorem B_ne (m n : Nat) (h : m < n) (hn : n < 18446744073709551616) : (B m).toList ≠ (B n).toList := by
  intro e
  rcases B_rises m n h hn with h1 | ⟨_, h1⟩
  · have := congrArg List.length e
    rw [B_list, B_list, List.length_cons, List.length_cons] at this
    simp only [bytesN, List.length_map, bigE_length] at this
    rw [B_size, B_size] at h1
    omega
  · rw [e, bl_irrefl] at h1; cases h1
theorem num_B (n : Nat) (hn : n < 18446744073709551616) (w : World) : Calls Try.prog 12 #[.int .u64 n] w fun e w' => e = .returned (.string (B n)) ∧ Below w.heap.size w w' := num_walk n hn w

def SaysX (a : Int) (X : ByteArray) : Prop := ∀ w : World, Calls Try.prog 12 #[.int .u64 a] w fun e w' => e = .returned (.string X) ∧ Below w.heap.size w w'
theorem SaysX.calls {a : Int} {X : ByteArray} (h : SaysX a X) (w : World) : Calls Try.prog 12 #[.int .u64 a] w fun e w' => e = .returned (.string X) ∧ Below w.heap.size w w' := h w
set_option maxHeartbeats 1000000
set_option maxRecDepth 100000
theorem chain8 {w w1 w2 w3 w4 w5 w6 w7 w8 : World} (h1 : Below w.heap.size w w1) (h2 : Below w1.heap.size w1 w2) (h3 : Below w2.heap.size w2 w3) (h4 : Below w3.heap.size w3 w4) (h5 : Below w4.heap.size w4 w5) (h6 : Below w5.heap.size w5 w6) (h7 : Below w6.heap.size w6 w7) (h8 : Below w7.heap.size w7 w8) : Below w.heap.size w w8 := by
  have k2 := below_then h1 h1.size h2
  have k3 := below_then k2 k2.size h3
  have k4 := below_then k3 k3.size h4
  have k5 := below_then k4 k4.size h5
  have k6 := below_then k5 k5.size h6
  have k7 := below_then k6 k6.size h7
  exact below_then k7 k7.size h8
theorem rises_lt1 (a b : Int) (X Y : ByteArray) (hX : SaysX a X) (hY : SaysX b Y) (h : a < b) (e2 : (X.toList == Y.toList) = false) (hs : X.size < Y.size) (w : World) :
    Calls Try.prog 4 #[.int .u64 a, .int .u64 b] w fun e w' => e = .returned (.bool true) ∧ Below w.heap.size w w' := by
  have e1 : (a == b) = false := by simp; omega
  have HX := Lib.hid hX
  have HY := Lib.hid hY
  clear hX hY
  go_enter Try.func4, Try.ntmps4
  go_wp2_with (first
    | (go_at_call 12; (with_reducible refine (HX.out.calls _).mono ?_); rintro e w1 ⟨rfl, hb1⟩)
    | (go_at_call 12; (with_reducible refine (HY.out.calls _).mono ?_); rintro e w2 ⟨rfl, hb2⟩)
    | (go_at_call 18; refine (num_nil _ _).mono ?_; rintro e w3 ⟨rfl, hb3⟩)
    | (go_at_call 19; refine (text_nil _ _).mono ?_; rintro e w4 ⟨rfl, hb4⟩)
    | (go_at_call 20; refine (list_nil _ _).mono ?_; rintro e w5 ⟨rfl, hb5⟩)
    | (go_at_call 21; refine (left_nil _).mono ?_; rintro e w6 ⟨rfl, hb6⟩)
    | (go_at_call 22; refine (end_nil _).mono ?_; rintro e w7 ⟨rfl, hb7⟩)
    | (go_at_call 11; refine (awake01_any _).mono ?_; rintro e w8 ⟨rfl, hb8⟩))
  go_ret
  exact ⟨rfl, chain8 hb1 hb2 hb3 hb4 hb5 hb6 hb7 hb8⟩
theorem rises_lt2 (a b : Int) (X Y : ByteArray) (hX : SaysX a X) (hY : SaysX b Y) (h : a < b) (e2 : (X.toList == Y.toList) = false) (hs : ¬ X.size < Y.size) (he : ((X.size : Int) == (Y.size : Int)) = true) (hl : Op.bytesLess X.toList Y.toList = true) (w : World) :
    Calls Try.prog 4 #[.int .u64 a, .int .u64 b] w fun e w' => e = .returned (.bool true) ∧ Below w.heap.size w w' := by
  have e1 : (a == b) = false := by simp; omega
  have HX := Lib.hid hX
  have HY := Lib.hid hY
  clear hX hY
  go_enter Try.func4, Try.ntmps4
  go_wp2_with (first
    | (go_at_call 12; (with_reducible refine (HX.out.calls _).mono ?_); rintro e w1 ⟨rfl, hb1⟩)
    | (go_at_call 12; (with_reducible refine (HY.out.calls _).mono ?_); rintro e w2 ⟨rfl, hb2⟩)
    | (go_at_call 18; refine (num_nil _ _).mono ?_; rintro e w3 ⟨rfl, hb3⟩)
    | (go_at_call 19; refine (text_nil _ _).mono ?_; rintro e w4 ⟨rfl, hb4⟩)
    | (go_at_call 20; refine (list_nil _ _).mono ?_; rintro e w5 ⟨rfl, hb5⟩)
    | (go_at_call 21; refine (left_nil _).mono ?_; rintro e w6 ⟨rfl, hb6⟩)
    | (go_at_call 22; refine (end_nil _).mono ?_; rintro e w7 ⟨rfl, hb7⟩)
    | (go_at_call 11; refine (awake01_any _).mono ?_; rintro e w8 ⟨rfl, hb8⟩))
  go_ret
  exact ⟨rfl, chain8 hb1 hb2 hb3 hb4 hb5 hb6 hb7 hb8⟩
theorem rises_gt1 (a b : Int) (X Y : ByteArray) (hX : SaysX a X) (hY : SaysX b Y) (h : b < a) (e2 : (Y.toList == X.toList) = false) (hs : Y.size < X.size) (w : World) :
    Calls Try.prog 4 #[.int .u64 a, .int .u64 b] w fun e w' => e = .returned (.bool true) ∧ Below w.heap.size w w' := by
  have e1 : (a == b) = false := by simp; omega
  have HX := Lib.hid hX
  have HY := Lib.hid hY
  clear hX hY
  go_enter Try.func4, Try.ntmps4
  go_wp2_with (first
    | (go_at_call 12; (with_reducible refine (HX.out.calls _).mono ?_); rintro e w1 ⟨rfl, hb1⟩)
    | (go_at_call 12; (with_reducible refine (HY.out.calls _).mono ?_); rintro e w2 ⟨rfl, hb2⟩)
    | (go_at_call 18; refine (num_nil _ _).mono ?_; rintro e w3 ⟨rfl, hb3⟩)
    | (go_at_call 19; refine (text_nil _ _).mono ?_; rintro e w4 ⟨rfl, hb4⟩)
    | (go_at_call 20; refine (list_nil _ _).mono ?_; rintro e w5 ⟨rfl, hb5⟩)
    | (go_at_call 21; refine (left_nil _).mono ?_; rintro e w6 ⟨rfl, hb6⟩)
    | (go_at_call 22; refine (end_nil _).mono ?_; rintro e w7 ⟨rfl, hb7⟩)
    | (go_at_call 11; refine (awake01_any _).mono ?_; rintro e w8 ⟨rfl, hb8⟩))
  go_ret
  exact ⟨rfl, chain8 hb1 hb2 hb3 hb4 hb5 hb6 hb7 hb8⟩
theorem rises_gt2 (a b : Int) (X Y : ByteArray) (hX : SaysX a X) (hY : SaysX b Y) (h : b < a) (e2 : (Y.toList == X.toList) = false) (hs : ¬ Y.size < X.size) (he : ((Y.size : Int) == (X.size : Int)) = true) (hl : Op.bytesLess Y.toList X.toList = true) (w : World) :
    Calls Try.prog 4 #[.int .u64 a, .int .u64 b] w fun e w' => e = .returned (.bool true) ∧ Below w.heap.size w w' := by
  have e1 : (a == b) = false := by simp; omega
  have HX := Lib.hid hX
  have HY := Lib.hid hY
  clear hX hY
  go_enter Try.func4, Try.ntmps4
  go_wp2_with (first
    | (go_at_call 12; (with_reducible refine (HX.out.calls _).mono ?_); rintro e w1 ⟨rfl, hb1⟩)
    | (go_at_call 12; (with_reducible refine (HY.out.calls _).mono ?_); rintro e w2 ⟨rfl, hb2⟩)
    | (go_at_call 18; refine (num_nil _ _).mono ?_; rintro e w3 ⟨rfl, hb3⟩)
    | (go_at_call 19; refine (text_nil _ _).mono ?_; rintro e w4 ⟨rfl, hb4⟩)
    | (go_at_call 20; refine (list_nil _ _).mono ?_; rintro e w5 ⟨rfl, hb5⟩)
    | (go_at_call 21; refine (left_nil _).mono ?_; rintro e w6 ⟨rfl, hb6⟩)
    | (go_at_call 22; refine (end_nil _).mono ?_; rintro e w7 ⟨rfl, hb7⟩)
    | (go_at_call 11; refine (awake01_any _).mono ?_; rintro e w8 ⟨rfl, hb8⟩))
  go_ret
  exact ⟨rfl, chain8 hb1 hb2 hb3 hb4 hb5 hb6 hb7 hb8⟩
theorem rises_eq (a : Int) (X : ByteArray) (hX : SaysX a X)   (w : World) :
    Calls Try.prog 4 #[.int .u64 a, .int .u64 a] w fun e w' => e = .returned (.bool true) ∧ Below w.heap.size w w' := by
  have HX := Lib.hid hX
  clear hX
  go_enter Try.func4, Try.ntmps4
  go_wp2_with fail
  refine (HX.out.calls _).mono ?_
  rintro e w1 ⟨rfl, hb1⟩
  go_wp2_with (first
    | (go_at_call 12; (with_reducible refine (HX.out.calls _).mono ?_); rintro e w2 ⟨rfl, hb2⟩)
    | (go_at_call 18; refine (num_nil _ _).mono ?_; rintro e w3 ⟨rfl, hb3⟩)
    | (go_at_call 19; refine (text_nil _ _).mono ?_; rintro e w4 ⟨rfl, hb4⟩)
    | (go_at_call 20; refine (list_nil _ _).mono ?_; rintro e w5 ⟨rfl, hb5⟩)
    | (go_at_call 21; refine (left_nil _).mono ?_; rintro e w6 ⟨rfl, hb6⟩)
    | (go_at_call 22; refine (end_nil _).mono ?_; rintro e w7 ⟨rfl, hb7⟩)
    | (go_at_call 11; refine (awake01_any _).mono ?_; rintro e w8 ⟨rfl, hb8⟩))
  go_ret
  exact ⟨rfl, chain8 hb1 hb2 hb3 hb4 hb5 hb6 hb7 hb8⟩
theorem DigitRises (a0 a1 : Int) (w : World) (w0 : (Lit.int .u64 a0).wf = true) (w1 : (Lit.int .u64 a1).wf = true) :
    Calls Try.prog 4 #[.int .u64 a0, .int .u64 a1] w fun e w' => e = .returned (.bool true) ∧ Below w.heap.size w w' := by
  have r0 : 0 ≤ a0 ∧ a0 < 18446744073709551616 := by
    have hmin : IntKind.u64.min = 0 := rfl
    have hmax : IntKind.u64.max = 18446744073709551615 := rfl
    simp only [Lit.wf, Bool.and_eq_true, decide_eq_true_eq] at w0
    omega
  have r1 : 0 ≤ a1 ∧ a1 < 18446744073709551616 := by
    have hmin : IntKind.u64.min = 0 := rfl
    have hmax : IntKind.u64.max = 18446744073709551615 := rfl
    simp only [Lit.wf, Bool.and_eq_true, decide_eq_true_eq] at w1
    omega
  obtain ⟨m, rfl⟩ := Int.eq_ofNat_of_zero_le r0.1
  obtain ⟨n, rfl⟩ := Int.eq_ofNat_of_zero_le r1.1
  have hm : m < 18446744073709551616 := by omega
  have hn : n < 18446744073709551616 := by omega
  have X : SaysX (m : Int) (B m) := fun w => num_B m hm w
  have Y : SaysX (n : Int) (B n) := fun w => num_B n hn w
  rcases Nat.lt_trichotomy m n with h | h | h
  · have hne := B_ne m n h hn
    have e2 : ((B m).toList == (B n).toList) = false := by simpa using hne
    rcases B_rises m n h hn with hs | ⟨hs, hl⟩
    · exact rises_lt1 m n _ _ X Y (by omega) e2 hs w
    · exact rises_lt2 m n _ _ X Y (by omega) e2 (by omega) (by rw [hs]; simp) hl w
  · subst h
    exact rises_eq m _ X w
  · have hne := B_ne n m h hm
    have e2 : ((B n).toList == (B m).toList) = false := by simpa using hne
    rcases B_rises n m h hm with hs | ⟨hs, hl⟩
    · exact rises_gt1 m n _ _ X Y (by omega) e2 hs w
    · exact rises_gt2 m n _ _ X Y (by omega) e2 (by omega) (by rw [hs]; simp) hl w

end Go.Proofs.Ythbjbjlfliogmaa.Pure
