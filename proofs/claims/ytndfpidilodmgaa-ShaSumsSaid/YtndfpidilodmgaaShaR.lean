/- The turned words, by the document as by the program; what Turn of the document returns. -/
import Derived.Test.YtndfpidilodmgaaShaPE
import Derived.Test.YtndfpidilodmgaaPShaTurnsx2
set_option linter.unusedSimpArgs false
set_option linter.unusedVariables false
namespace Go.Proofs.Ytndfpidilodmgaa.Hand
open Go.RowKit Go.Proofs.YtndfpidilodmgaaW.PrintWords Go.Proofs.YtndfpidilodmgaaW.PrintLast
open Go.Proofs.Ytndfpidilodmgaa.PShaTurns
theorem power_loop (n d : Nat) (hn : n ≤ 31) : ∀ (j i : Nat), i + j = n → muleteerref02_power.l0 (j + 1 + d) (n : Int) ((2 ^ i : Nat) : Int) (i : Int) = some ((2 ^ n : Nat) : Int)
  | 0, i, h => by
    obtain rfl : i = n := by omega
    rw [show 0 + 1 + d = d + 1 by omega, muleteerref02_power.l0, if_neg (by omega)]
  | j + 1, i, h => by
    have h2 : (2 : Nat) ^ (i + 1) ≤ 2 ^ 31 := Nat.pow_le_pow_right (by decide) (by omega)
    have hs : (2 : Nat) ^ (i + 1) = 2 ^ i * 2 := Nat.pow_succ ..
    have ih := power_loop n d hn j (i + 1) (by omega)
    rw [hs] at ih h2
    generalize (2 : Nat) ^ i = X at ih h2 ⊢
    have e5 : wrap64 ((i : Int) + 1) = ((i + 1 : Nat) : Int) := by unfold wrap64; omega
    have e6 : ((X : Int) * 2) % 4294967296 = ((X * 2 : Nat) : Int) := by omega
    rw [show j + 1 + 1 + d = (j + 1 + d) + 1 by omega, muleteerref02_power.l0, if_pos (by omega), e5, e6]
    exact ih
theorem power_f (k n : Nat) (hn : n ≤ 31) (hk : 33 ≤ k) : muleteerref02_power.f k (n : Int) = some ((2 ^ n : Nat) : Int) := by
  have h := power_loop n (k - n - 1) hn n 0 (by omega)
  rw [show n + 1 + (k - n - 1) = k by omega] at h
  exact h
/-- A word. -/
def W32 (x : Int) : Prop := 0 ≤ x ∧ x < 4294967296
theorem W32.nat {x : Int} (h : W32 x) : ∃ a : Nat, x = (a : Int) ∧ a < 4294967296 := ⟨x.toNat, by have := h.1; omega, by have := h.1; have := h.2; omega⟩
theorem W32.of_nat {a : Nat} (h : a < 4294967296) : W32 (a : Int) := ⟨by omega, by omega⟩
theorem W32.mod (x : Int) : W32 (x % 4294967296) := ⟨by omega, by omega⟩
theorem rotr_nat (x i q : Nat) (hx : x < 4294967296) (hq : 0 < q) (hpq : q * 2 ^ i = 4294967296) : rotr (x : Int) ((2 ^ i : Nat) : Int) (q : Int) = ((x % q * 2 ^ i + x / q : Nat) : Int) := by
  have h1 : ((x : Int) * ((2 ^ i : Nat) : Int)) % 4294967296 = ((x % q * 2 ^ i : Nat) : Int) := by
    rw [← Nat.mul_mod_mul_right, hpq]
    omega
  have h2 : (x : Int) / (q : Int) = ((x / q : Nat) : Int) := rfl
  have h3 : x / q < 2 ^ i := Nat.div_lt_of_lt_mul (by rw [hpq]; exact hx)
  have h4 : x % q * 2 ^ i < 4294967296 := by
    rw [← hpq]
    exact Nat.mul_lt_mul_of_pos_right (Nat.mod_lt _ hq) (Nat.pow_pos (by decide))
  have h5 : x / q < 4294967296 := Nat.lt_of_le_of_lt (Nat.div_le_self _ _) hx
  rw [rotr, h1, h2, u32_or_nat _ _ h4 h5, nat_join i _ _ (Nat.mul_mod_left _ _) h3]
theorem rotr_W (x : Int) (i q : Nat) (hx : W32 x) (hq : 0 < q) (hpq : q * 2 ^ i = 4294967296) : W32 (rotr x ((2 ^ i : Nat) : Int) (q : Int)) := by
  obtain ⟨a, rfl, ha⟩ := hx.nat
  rw [rotr_nat a i q ha hq hpq]
  refine W32.of_nat ?_
  have h3 : a / q < 2 ^ i := Nat.div_lt_of_lt_mul (by rw [hpq]; exact ha)
  have h4 : (a % q + 1) * 2 ^ i ≤ q * 2 ^ i := Nat.mul_le_mul_right _ (Nat.mod_lt _ hq)
  rw [hpq, Nat.add_mul] at h4
  omega
theorem turned_f (k : Nat) (hk : 33 ≤ k) (x : Int) (hx : W32 x) (n i : Nat) (hn : 0 < n) (h : n + i = 32) (hi : 0 < i) : muleteerref02_turned.f k x (n : Int) = some (rotr x ((2 ^ i : Nat) : Int) ((2 ^ n : Nat) : Int)) := by
  obtain ⟨a, rfl, ha⟩ := hx.nat
  have hpq : 2 ^ n * 2 ^ i = 4294967296 := by rw [← Nat.pow_add, h]
  have hq : 0 < 2 ^ n := Nat.pow_pos (by decide)
  rw [rotr_nat a i (2 ^ n) ha hq hpq]
  have e1 : wrap64 (32 - (n : Int)) = (i : Int) := by unfold wrap64; omega
  rw [muleteerref02_turned.f, power_f k n (by omega) hk, Option.bind_some, if_neg (by omega), Option.bind_some, if_neg (by omega), e1, power_f k i (by omega) hk, Option.bind_some]
  have h3 : a / 2 ^ n < 2 ^ i := Nat.div_lt_of_lt_mul (by rw [hpq]; exact ha)
  have h4 : (a % 2 ^ n + 1) * 2 ^ i ≤ 2 ^ n * 2 ^ i := Nat.mul_le_mul_right _ (Nat.mod_lt _ hq)
  rw [hpq, Nat.add_mul] at h4
  have d1 : Int.tdiv (a : Int) ((2 ^ n : Nat) : Int) = ((a / 2 ^ n : Nat) : Int) := rfl
  have d2 : Int.tmod (a : Int) ((2 ^ n : Nat) : Int) = ((a % 2 ^ n : Nat) : Int) := rfl
  rw [d1, d2, ← Int.natCast_mul]
  clear d1 d2 e1
  generalize a / 2 ^ n = X at h3 ⊢
  generalize a % 2 ^ n * 2 ^ i = Y at h4 ⊢
  congr 1
  omega
theorem not_nat (e : Nat) (he : e < 4294967296) : 4294967295 - e = 4294967295 ^^^ e := by
  apply Nat.eq_of_testBit_eq
  intro j
  have h := Nat.testBit_two_pow_sub_succ (n := 32) (x := e) he j
  have h1 := Nat.testBit_two_pow_sub_one 32 j
  rw [show 2 ^ 32 - (e + 1) = 4294967295 - e by omega] at h
  rw [show 2 ^ 32 - 1 = 4294967295 by rfl] at h1
  rw [h, Nat.testBit_xor, h1]
  by_cases hj : j < 32
  · simp [hj]
  · have : e.testBit j = false := Nat.testBit_lt_two_pow (Nat.lt_of_lt_of_le he (by rw [show 4294967296 = 2 ^ 32 by rfl]; exact Nat.pow_le_pow_right (by decide) (by omega)))
    simp [hj, this]
theorem ch_nat (e f g : Nat) (he : e < 4294967296) : (e &&& f) ^^^ ((4294967295 ^^^ e) &&& g) = (e &&& f) ||| ((4294967295 ^^^ e) &&& g) := by
  apply Nat.eq_of_testBit_eq
  intro j
  have h1 := Nat.testBit_two_pow_sub_one 32 j
  rw [show 2 ^ 32 - 1 = 4294967295 by rfl] at h1
  simp only [Nat.testBit_and, Nat.testBit_or, Nat.testBit_xor, h1]
  by_cases hj : j < 32
  · simp only [hj, decide_true]
    cases e.testBit j <;> cases f.testBit j <;> cases g.testBit j <;> rfl
  · have : e.testBit j = false := Nat.testBit_lt_two_pow (Nat.lt_of_lt_of_le he (by rw [show 4294967296 = 2 ^ 32 by rfl]; exact Nat.pow_le_pow_right (by decide) (by omega)))
    simp [hj, this]
theorem maj_nat (a b c : Nat) : (a &&& b) ^^^ (a &&& c) ^^^ (b &&& c) = (a &&& b) ||| (a &&& c) ||| (b &&& c) := by
  apply Nat.eq_of_testBit_eq
  intro j
  simp only [Nat.testBit_and, Nat.testBit_or, Nat.testBit_xor]
  cases a.testBit j <;> cases b.testBit j <;> cases c.testBit j <;> rfl
theorem and_lt (a b : Nat) (ha : a < 4294967296) : a &&& b < 4294967296 := Nat.lt_of_le_of_lt Nat.and_le_left ha
theorem xor_lt (a b : Nat) (ha : a < 4294967296) (hb : b < 4294967296) : a ^^^ b < 4294967296 := Nat.xor_lt_two_pow (n := 32) ha hb
theorem or_lt (a b : Nat) (ha : a < 4294967296) (hb : b < 4294967296) : a ||| b < 4294967296 := Nat.or_lt_two_pow (n := 32) ha hb
theorem ch_eq (e f g : Int) (he : W32 e) (hf : W32 f) (hg : W32 g) : Go.bits .xor .u32 (Go.bits .and .u32 e f) (Go.bits .and .u32 ((4294967295 - e) % 4294967296) g) = bits .or .u32 (bits .and .u32 e f) (bits .and .u32 (bits .xor .u32 (if IntKind.u32.signed = true then -1 else IntKind.u32.max) e) g) := by
  obtain ⟨a, rfl, ha⟩ := he.nat
  obtain ⟨b, rfl, hb⟩ := hf.nat
  obtain ⟨c, rfl, hc⟩ := hg.nat
  have h1 : ((4294967295 - (a : Int)) % 4294967296) = ((4294967295 ^^^ a : Nat) : Int) := by rw [← not_nat a ha]; omega
  have h2 : (if IntKind.u32.signed = true then -1 else IntKind.u32.max) = ((4294967295 : Nat) : Int) := rfl
  have h3 : 4294967295 ^^^ a < 4294967296 := xor_lt _ _ (by decide) ha
  rw [h1, h2, u32_xor_nat _ _ (by decide) ha, u32_and_nat _ _ ha hb, u32_and_nat _ _ h3 hc, u32_xor_nat _ _ (and_lt _ _ ha) (and_lt _ _ h3), u32_or_nat _ _ (and_lt _ _ ha) (and_lt _ _ h3), ch_nat a b c ha]
theorem maj_eq (a b c : Int) (wa : W32 a) (wb : W32 b) (wc : W32 c) : Go.bits .xor .u32 (Go.bits .xor .u32 (Go.bits .and .u32 a b) (Go.bits .and .u32 a c)) (Go.bits .and .u32 b c) = bits .or .u32 (bits .or .u32 (bits .and .u32 a b) (bits .and .u32 a c)) (bits .and .u32 b c) := by
  obtain ⟨a, rfl, ha⟩ := wa.nat
  obtain ⟨b, rfl, hb⟩ := wb.nat
  obtain ⟨c, rfl, hc⟩ := wc.nat
  have h1 := and_lt a b ha
  have h2 := and_lt a c ha
  have h3 := and_lt b c hb
  rw [u32_and_nat _ _ ha hb, u32_and_nat _ _ ha hc, u32_and_nat _ _ hb hc, u32_xor_nat _ _ h1 h2, u32_xor_nat _ _ (xor_lt _ _ h1 h2) h3, u32_or_nat _ _ h1 h2, u32_or_nat _ _ (or_lt _ _ h1 h2) h3, maj_nat]
theorem KL_len : KL.length = 64 := rfl
set_option maxHeartbeats 1600000 in
theorem t_loop (s : ByteArray) (a0 a1 a2 a3 a4 a5 a6 a7 : Int) : ∀ (j t : Nat), t + j = 64 → ∀ b0 b1 b2 b3 b4 b5 b6 b7 : Int, RS s t (a0, a1, a2, a3, a4, a5, a6, a7) = (b0, b1, b2, b3, b4, b5, b6, b7) → W32 b0 → W32 b1 → W32 b2 → W32 b3 → W32 b4 → W32 b5 → W32 b6 → W32 b7 →
    muleteerref02_Turn.l1 (j + 1 + 45) [a0, a1, a2, a3, a4, a5, a6, a7] (SP s 64) KL b0 b1 b2 b3 b4 b5 b6 b7 (t : Int) = some (TL s (a0, a1, a2, a3, a4, a5, a6, a7))
  | 0, t, h, b0, b1, b2, b3, b4, b5, b6, b7, hR, _, _, _, _, _, _, _, _ => by
    obtain rfl : t = 64 := by omega
    have hl : (([a0, a1, a2, a3, a4, a5, a6, a7].length : Nat) : Int) = 8 := rfl
    rw [show 0 + 1 + 45 = 45 + 1 by omega, muleteerref02_Turn.l1, hl, if_neg (by decide), if_pos (by decide), if_pos (by decide), if_pos (by decide), if_pos (by decide), if_pos (by decide), if_pos (by decide), if_pos (by decide), if_pos (by decide), TL, hR]
    simp only [rd, l8, ADD, List.getD_cons_zero, List.getD_cons_succ, List.set_cons_zero, List.set_cons_succ, IntKind.wrap_u32', Int.toNat_zero, show (1 : Int).toNat = 1 from rfl, show (2 : Int).toNat = 2 from rfl, show (3 : Int).toNat = 3 from rfl, show (4 : Int).toNat = 4 from rfl, show (5 : Int).toNat = 5 from rfl, show (6 : Int).toNat = 6 from rfl, show (7 : Int).toNat = 7 from rfl]
  | j + 1, t, h, b0, b1, b2, b3, b4, b5, b6, b7, hR, h0, h1, h2, h3, h4, h5, h6, h7 => by
    have k1 : 33 ≤ j + 1 + 45 := by omega
    have e5 : wrap64 ((t : Int) + 1) = ((t + 1 : Nat) : Int) := by unfold wrap64; omega
    have l1 : (t : Int) < ((KL.length : Nat) : Int) := by rw [KL_len]; omega
    have l2 : (t : Int) < (((SP s 64).length : Nat) : Int) := by rw [SP_len]; omega
    have hr1 : rd KL (t : Int) = KL.getD t 0 := rfl
    have hr2 : rd (SP s 64) (t : Int) = (SP s 64).getD t 0 := rfl
    have hS : RS s (t + 1) (a0, a1, a2, a3, a4, a5, a6, a7) = rnd (KL.getD t 0) ((SP s 64).getD t 0) (b0, b1, b2, b3, b4, b5, b6, b7) := by rw [RS, hR]
    rw [show j + 1 + 1 + 45 = (j + 1 + 45) + 1 by omega, muleteerref02_Turn.l1, if_pos (by omega)]
    rw [show (6 : Int) = ((6 : Nat) : Int) from rfl, show (11 : Int) = ((11 : Nat) : Int) from rfl, show (25 : Int) = ((25 : Nat) : Int) from rfl, show (2 : Int) = ((2 : Nat) : Int) from rfl, show (13 : Int) = ((13 : Nat) : Int) from rfl, show (22 : Int) = ((22 : Nat) : Int) from rfl]
    rw [turned_f _ k1 b4 h4 6 26 (by decide) rfl (by decide), Option.bind_some, turned_f _ k1 b4 h4 11 21 (by decide) rfl (by decide), Option.bind_some, turned_f _ k1 b4 h4 25 7 (by decide) rfl (by decide), Option.bind_some, if_pos (by omega), if_pos l1, if_pos l2, turned_f _ k1 b0 h0 2 30 (by decide) rfl (by decide), Option.bind_some, turned_f _ k1 b0 h0 13 19 (by decide) rfl (by decide), Option.bind_some, turned_f _ k1 b0 h0 22 10 (by decide) rfl (by decide), Option.bind_some, e5, ch_eq b4 b5 b6 h4 h5 h6, maj_eq b0 b1 b2 h0 h1 h2, hr1, hr2]
    simp only [rnd, oneV, twoV, IntKind.wrap_u32'] at hS
    exact t_loop s a0 a1 a2 a3 a4 a5 a6 a7 j (t + 1) (by omega) _ _ _ _ _ _ _ _ hS (W32.mod _) h0 h1 h2 (W32.mod _) h4 h5 h6
theorem SP_get (s : ByteArray) (n : Nat) : ∀ m, n < m → m ≤ 64 → (SP s m).getD n 0 = word s (SP s n) n
  | 0, h, _ => by omega
  | m + 1, h, hm => by
    by_cases e : n = m
    · subst e
      rw [SP, getD_set_self _ _ _ (by rw [SP_len]; omega)]
    · have ih := SP_get s n m (by omega) (by omega)
      rw [SP, List.getD_eq_getElem?_getD, List.getElem?_set_ne (by omega), ← List.getD_eq_getElem?_getD]
      exact ih
theorem SP_zero (s : ByteArray) (n : Nat) : ∀ m, m ≤ n → (SP s m).getD n 0 = 0
  | 0, _ => by
    rw [SP, Z64, List.getD_eq_getElem?_getD, List.getElem?_replicate]
    split <;> rfl
  | m + 1, h => by
    have ih := SP_zero s n m (by omega)
    rw [SP, List.getD_eq_getElem?_getD, List.getElem?_set_ne (by omega), ← List.getD_eq_getElem?_getD]
    exact ih
def WD (s : ByteArray) (n : Nat) : Int := (SP s 64).getD n 0
theorem WD_small (s : ByteArray) (n : Nat) (h : n < 16) : WD s n = acc s n 4 0 := by
  rw [WD, SP_get s n 64 (by omega) (Nat.le_refl _), word, if_pos h, SP_zero s n n (Nat.le_refl _)]
theorem WD_big (s : ByteArray) (n : Nat) (h : ¬ n < 16) (h64 : n < 64) : WD s n = word2 (WD s (n - 16)) (WD s (n - 7)) (WD s (n - 15)) (WD s (n - 2)) := by
  have e : ∀ i, i < n → (SP s n).getD i 0 = WD s i := fun i hi => by rw [WD, SP_get s i n hi (by omega), SP_get s i 64 (by omega) (Nat.le_refl _)]
  rw [WD, SP_get s n 64 h64 (Nat.le_refl _), word, if_neg h, e _ (by omega), e _ (by omega), e _ (by omega), e _ (by omega)]
theorem byte1_val (s : ByteArray) (n i : Nat) (x : Int) (h0 : 0 ≤ x) (h1 : x < 16777216) : byte1 s n i x = x * 256 + bt s (4 * (n : Int) + (i : Int)) := by
  have hb := bt_range s (4 * (n : Int) + (i : Int))
  unfold byte1
  generalize bt s (4 * (n : Int) + (i : Int)) = b at hb ⊢
  obtain ⟨X, rfl⟩ : ∃ X : Nat, x = X := ⟨x.toNat, by omega⟩
  obtain ⟨B, rfl⟩ : ∃ B : Nat, b = B := ⟨b.toNat, by omega⟩
  have e1 : ((X : Int) * 256) % 4294967296 = ((X * 256 : Nat) : Int) := by omega
  have e2 : (B : Int) % 4294967296 = (B : Int) := by omega
  rw [e1, e2, u32_or_nat _ _ (by omega) (by omega), nat_join 8 _ _ (by omega) (by omega)]
  omega
theorem acc_val (s : ByteArray) (n : Nat) : acc s n 4 0 = ((bt s (4 * (n : Int)) * 256 + bt s (4 * (n : Int) + 1)) * 256 + bt s (4 * (n : Int) + 2)) * 256 + bt s (4 * (n : Int) + 3) := by
  have h0 := bt_range s (4 * (n : Int))
  have h1 := bt_range s (4 * (n : Int) + 1)
  have h2 := bt_range s (4 * (n : Int) + 2)
  have e0 : byte1 s n 0 0 = bt s (4 * (n : Int)) := by
    rw [byte1_val s n 0 0 (by omega) (by omega), show 4 * (n : Int) + ((0 : Nat) : Int) = 4 * (n : Int) by omega]
    omega
  have e1 : ∀ x, 0 ≤ x → x < 16777216 → byte1 s n 1 x = x * 256 + bt s (4 * (n : Int) + 1) := byte1_val s n 1
  have e2 : ∀ x, 0 ≤ x → x < 16777216 → byte1 s n 2 x = x * 256 + bt s (4 * (n : Int) + 2) := byte1_val s n 2
  have e3 : ∀ x, 0 ≤ x → x < 16777216 → byte1 s n 3 x = x * 256 + bt s (4 * (n : Int) + 3) := byte1_val s n 3
  show byte1 s n 3 (byte1 s n 2 (byte1 s n 1 (byte1 s n 0 0))) = _
  rw [e0, e1 _ (by omega) (by omega), e2 _ (by omega) (by omega), e3 _ (by omega) (by omega)]
theorem WD_W (s : ByteArray) (n : Nat) (h : n < 64) : W32 (WD s n) := by
  by_cases h16 : n < 16
  · rw [WD_small s n h16, acc_val]
    have h0 := bt_range s (4 * (n : Int))
    have h1 := bt_range s (4 * (n : Int) + 1)
    have h2 := bt_range s (4 * (n : Int) + 2)
    have h3 := bt_range s (4 * (n : Int) + 3)
    exact ⟨by omega, by omega⟩
  · rw [WD_big s n h16 h, word2]
    exact W32.mod _
theorem take_one (L : List Int) (t : Nat) (h : t < L.length) : L.take (t + 1) = L.take t ++ [L.getD t 0] := by
  rw [List.take_add_one, List.getD_eq_getElem?_getD, List.getElem?_eq_getElem h]
  rfl
theorem rd_take (L : List Int) (t i : Nat) (h : i < t) : rd (L.take t) (i : Int) = L.getD i 0 := by
  rw [rd, Int.toNat_natCast, List.getD_eq_getElem?_getD, List.getElem?_take_of_lt h, ← List.getD_eq_getElem?_getD]
theorem be4 (b0 b1 b2 b3 : Int) (h0 : 0 ≤ b0 ∧ b0 ≤ 255) (h1 : 0 ≤ b1 ∧ b1 ≤ 255) (h2 : 0 ≤ b2 ∧ b2 ≤ 255) (h3 : 0 ≤ b3 ∧ b3 ≤ 255) : (((((((((b0 % 4294967296) * 16777216) % 4294967296) + (((b1 % 4294967296) * 65536) % 4294967296)) % 4294967296) + (((b2 % 4294967296) * 256) % 4294967296)) % 4294967296) + (b3 % 4294967296)) % 4294967296) = ((b0 * 256 + b1) * 256 + b2) * 256 + b3 := by omega
theorem td_W (y : Int) (n : Nat) (h : W32 y) : (Int.tdiv y (n : Int)) % 4294967296 = y / (n : Int) := by
  obtain ⟨a, rfl, ha⟩ := h.nat
  have hle : a / n ≤ a := Nat.div_le_self _ _
  rw [show Int.tdiv (a : Int) (n : Int) = ((a / n : Nat) : Int) from rfl, show (a : Int) / (n : Int) = ((a / n : Nat) : Int) from rfl]
  generalize a / n = q at hle ⊢
  omega
theorem sum4 (A B c d : Int) : (((((A + c) % 4294967296) + B) % 4294967296) + d) % 4294967296 = (d + c + B + A) % 4294967296 := by omega
set_option maxHeartbeats 1600000 in
theorem w_loop (s : ByteArray) (hs : s.size = 64) (a0 a1 a2 a3 a4 a5 a6 a7 : Int) (h0 : W32 a0) (h1 : W32 a1) (h2 : W32 a2) (h3 : W32 a3) (h4 : W32 a4) (h5 : W32 a5) (h6 : W32 a6) (h7 : W32 a7) : ∀ (j t : Nat), t + j = 64 →
    muleteerref02_Turn.l0 (j + 1 + 110) [a0, a1, a2, a3, a4, a5, a6, a7] s ((SP s 64).take t) (t : Int) = some (TL s (a0, a1, a2, a3, a4, a5, a6, a7))
  | 0, t, h => by
    obtain rfl : t = 64 := by omega
    have hl : (([a0, a1, a2, a3, a4, a5, a6, a7].length : Nat) : Int) = 8 := rfl
    have hk : muleteerref02_constants.f = some KL := rfl
    have ht : (SP s 64).take 64 = SP s 64 := List.take_of_length_le (by rw [SP_len]; exact Nat.le_refl _)
    have hr := t_loop s a0 a1 a2 a3 a4 a5 a6 a7 64 0 rfl a0 a1 a2 a3 a4 a5 a6 a7 rfl h0 h1 h2 h3 h4 h5 h6 h7
    rw [show 0 + 1 + 110 = 110 + 1 by omega, muleteerref02_Turn.l0, hl, if_neg (by decide), hk, Option.bind_some, if_pos (by decide), if_pos (by decide), if_pos (by decide), if_pos (by decide), if_pos (by decide), if_pos (by decide), if_pos (by decide), if_pos (by decide), ht]
    exact hr
  | j + 1, t, h => by
    have ih := w_loop s hs a0 a1 a2 a3 a4 a5 a6 a7 h0 h1 h2 h3 h4 h5 h6 h7 j (t + 1) (by omega)
    have e5 : wrap64 ((t : Int) + 1) = ((t + 1 : Nat) : Int) := by unfold wrap64; omega
    have hlt : ((SP s 64).take t).length = t := by rw [List.length_take, SP_len]; omega
    have hln : ((SP s 64).take t).length < 35184372088832 := by omega
    rw [take_one _ _ (by rw [SP_len]; omega)] at ih
    rw [show j + 1 + 1 + 110 = (j + 1 + 110) + 1 by omega, muleteerref02_Turn.l0, if_pos (by omega)]
    by_cases h16 : t < 16
    · have c0 : wrap64 (4 * (t : Int)) = 4 * (t : Int) := by unfold wrap64; omega
      have c1 : wrap64 (4 * (t : Int) + 1) = 4 * (t : Int) + 1 := by unfold wrap64; omega
      have c2 : wrap64 (4 * (t : Int) + 2) = 4 * (t : Int) + 2 := by unfold wrap64; omega
      have c3 : wrap64 (4 * (t : Int) + 3) = 4 * (t : Int) + 3 := by unfold wrap64; omega
      have g0 := bt_range s (4 * (t : Int))
      have g1 := bt_range s (4 * (t : Int) + 1)
      have g2 := bt_range s (4 * (t : Int) + 2)
      have g3 := bt_range s (4 * (t : Int) + 3)
      have hw : (SP s 64).getD t 0 = _ := (WD_small s t h16).trans (acc_val s t)
      rw [if_pos (by omega), c0, c1, c2, c3, if_pos (by omega), if_pos (by omega), if_pos (by omega), if_pos (by omega), if_pos (by omega), if_pos (by omega), if_pos (by omega), if_pos (by omega), if_pos hln, e5]
      rw [hw] at ih
      rw [be4 _ _ _ _ g0 g1 g2 g3]
      exact ih
    · have c2 : wrap64 ((t : Int) - 2) = ((t - 2 : Nat) : Int) := by unfold wrap64; omega
      have c7 : wrap64 ((t : Int) - 7) = ((t - 7 : Nat) : Int) := by unfold wrap64; omega
      have c15 : wrap64 ((t : Int) - 15) = ((t - 15 : Nat) : Int) := by unfold wrap64; omega
      have c16 : wrap64 ((t : Int) - 16) = ((t - 16 : Nat) : Int) := by unfold wrap64; omega
      have k1 : 33 ≤ j + 1 + 110 := by omega
      have w2 : W32 ((SP s 64).getD (t - 2) 0) := WD_W s (t - 2) (by omega)
      have w15 : W32 ((SP s 64).getD (t - 15) 0) := WD_W s (t - 15) (by omega)
      have hw : (SP s 64).getD t 0 = word2 ((SP s 64).getD (t - 16) 0) ((SP s 64).getD (t - 7) 0) ((SP s 64).getD (t - 15) 0) ((SP s 64).getD (t - 2) 0) := WD_big s t h16 (by omega)
      have r2 := rd_take (SP s 64) t (t - 2) (by omega)
      have r7 := rd_take (SP s 64) t (t - 7) (by omega)
      have r15 := rd_take (SP s 64) t (t - 15) (by omega)
      have r16 := rd_take (SP s 64) t (t - 16) (by omega)
      rw [hw] at ih
      rw [if_neg (by omega), c2, c7, c15, c16, hlt, r2, r7, r15, r16]
      generalize (SP s 64).getD (t - 2) 0 = y2 at ih w2 ⊢
      generalize (SP s 64).getD (t - 7) 0 = y7 at ih ⊢
      generalize (SP s 64).getD (t - 15) 0 = y15 at ih w15 ⊢
      generalize (SP s 64).getD (t - 16) 0 = y16 at ih ⊢
      rw [hlt] at hln
      rw [show (17 : Int) = ((17 : Nat) : Int) from rfl, show (19 : Int) = ((19 : Nat) : Int) from rfl, show (7 : Int) = ((7 : Nat) : Int) from rfl, show (18 : Int) = ((18 : Nat) : Int) from rfl]
      rw [if_pos (by omega), if_pos (by omega), if_pos (by omega), if_pos (by omega), turned_f _ k1 y2 w2 17 15 (by decide) rfl (by decide), Option.bind_some, turned_f _ k1 y2 w2 19 13 (by decide) rfl (by decide), Option.bind_some, if_pos (by omega), if_pos (by omega), turned_f _ k1 y15 w15 7 25 (by decide) rfl (by decide), Option.bind_some, turned_f _ k1 y15 w15 18 14 (by decide) rfl (by decide), Option.bind_some, if_pos (by omega), if_pos (by omega), if_pos hln, e5]
      rw [show (1024 : Int) = ((1024 : Nat) : Int) from rfl, show (8 : Int) = ((8 : Nat) : Int) from rfl, td_W y2 1024 w2, td_W y15 8 w15, sum4]
      rw [word2, sig0, sig1] at ih
      exact ih
end Go.Proofs.Ytndfpidilodmgaa.Hand
