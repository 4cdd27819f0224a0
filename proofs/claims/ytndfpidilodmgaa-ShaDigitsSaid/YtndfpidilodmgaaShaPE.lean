/- Both Pads answer the same; the statement ShaPads walked. -/
import Derived.Test.YtndfpidilodmgaaShaW
set_option linter.unusedSimpArgs false
set_option linter.unusedVariables false
namespace Go.Proofs.Ytndfpidilodmgaa.Hand
open Go.RowKit Go.Proofs.YtndfpidilodmgaaW.PrintWords Go.Proofs.YtndfpidilodmgaaW.PrintLast
open Go.Proofs.Ytndfpidilodmgaa.PShaPads
def pbs (n : Nat) : Nat → List Int
  | 0 => []
  | i + 1 => pbs n i ++ [padByte n i]
theorem pbs_len (n : Nat) : ∀ i, (pbs n i).length = i
  | 0 => rfl
  | i + 1 => by rw [pbs, List.length_append, pbs_len n i]; rfl
theorem padSt_eq (n : Nat) : ∀ i, i ≤ 8 → padSt n i = (128 :: List.replicate (padZ n) 0) ++ (pbs n i ++ List.replicate (8 - i) 0)
  | 0, _ => by
    rw [padSt, pbs, List.nil_append, show padZ n + 9 = (padZ n + 8) + 1 by omega, List.replicate_succ, List.set_cons_zero, List.cons_append, List.replicate_append_replicate]
  | i + 1, h => by
    have hl : (pbs n i).length = i := pbs_len n i
    rw [padSt, padSt_eq n i (by omega), List.set_append_right _ _ (by simp; omega), List.set_append_right _ _ (by simp [hl]; omega), pbs]
    congr 1
    rw [List.append_assoc]
    congr 1
    have e : 1 + padZ n + i - (128 :: List.replicate (padZ n) (0 : Int)).length - (pbs n i).length = 0 := by simp [hl]; omega
    rw [e, show 8 - i = (8 - (i + 1)) + 1 by omega, List.replicate_succ, List.set_cons_zero]
    rfl
def tl (n : Nat) : Nat → List Int
  | 0 => []
  | i + 1 => ((n * 8 / 256 ^ i % 256 : Nat) : Int) :: tl n i
theorem tl_len (n : Nat) : ∀ i, (tl n i).length = i
  | 0 => rfl
  | i + 1 => by rw [tl, List.length_cons, tl_len n i]
theorem tl_eq (n : Nat) : tl n 8 = pbs n 8 := by
  simp only [tl, pbs, padByte, List.nil_append, List.cons_append]
theorem strOfNums_append (a b : List Int) : strOfNums a ++ strOfNums b = strOfNums (a ++ b) := by
  apply ByteArray.ext
  rw [ByteArray.data_append, strOfNums, strOfNums, strOfNums, List.map_append, List.append_toArray]
theorem small9 {a b : Nat} (h : b + a ≤ 9) : a + b < 140737488355328 := by omega
theorem ref_loop (n : Nat) (hn : n ≤ 1152921504606846976) (l : List Int) (hl : l.length ≤ 100) : ∀ (j i : Nat), i + j = 8 → muleteerref02_Pad.l1 (j + 1) l ((n * 8 / 256 ^ i : Nat) : Int) (tl n i) (i : Int) = some (strOfNums (l ++ tl n 8))
  | 0, i, h => by
    obtain rfl : i = 8 := by omega
    have h1 : (strOfNums l).size = l.length := by show (strOfNums l).data.size = _; rw [strOfNums, List.size_toArray, List.length_map]
    have h2 : (strOfNums (tl n 8)).size = (tl n 8).length := by show (strOfNums (tl n 8)).data.size = _; rw [strOfNums, List.size_toArray, List.length_map]
    rw [muleteerref02_Pad.l1, if_neg (by decide), h1, h2, tl_len, if_pos (by omega), strOfNums_append]
  | j + 1, i, h => by
    have hi : (i : Int) < 8 := by omega
    have hb : n * 8 / 256 ^ i ≤ n * 8 := Nat.div_le_self _ _
    have hp : n * 8 / 256 ^ (i + 1) = n * 8 / 256 ^ i / 256 := by rw [Nat.pow_succ, ← Nat.div_div_eq_div_mul]
    have ih := ref_loop n hn l hl j (i + 1) (by omega)
    have ht : tl n (i + 1) = ((n * 8 / 256 ^ i % 256 : Nat) : Int) :: tl n i := rfl
    rw [hp, ht] at ih
    have hlen : (tl n i).length = i := tl_len n i
    generalize n * 8 / 256 ^ i = X at hb ih ⊢
    generalize tl n i = Y at hlen ih ⊢
    have e5 : wrap64 ((i : Int) + 1) = ((i + 1 : Nat) : Int) := by unfold wrap64; omega
    have e6 : ([((X % 256 : Nat) : Int)] : List Int).length + Y.length < 140737488355328 := small9 (show Y.length + 1 ≤ 9 by omega)
    have e2 : IntKind.u64.wrap (Int.tdiv (X : Int) 256) = ((X / 256 : Nat) : Int) := by
      rw [show Int.tdiv (X : Int) 256 = ((X / 256 : Nat) : Int) from rfl, IntKind.wrap_u64]
      omega
    have e1 : Int.tmod (X : Int) 256 % 256 = ((X % 256 : Nat) : Int) := by
      rw [show Int.tmod (X : Int) 256 = ((X % 256 : Nat) : Int) from rfl]
      clear e2
      omega
    rw [muleteerref02_Pad.l1, if_pos hi, Option.bind_some, e1, e2, e5, if_pos e6]
    exact ih
theorem padB_eq (n : Nat) : padB n = strOfNums ((128 :: List.replicate (padZ n) 0) ++ tl n 8) := by
  rw [padB, padSt_eq n 8 (Nat.le_refl _), tl_eq, Nat.sub_self, List.replicate_zero, List.append_nil]
theorem tm64 (a : Nat) : Int.tmod (a : Int) 64 = ((a % 64 : Nat) : Int) := rfl
theorem ref_zeros (n : Nat) (hn : n ≤ 1152921504606846976) : ∀ (d j : Nat), j + d = padZ n → muleteerref02_Pad.l0 (d + 10) (n : Int) (128 :: List.replicate j 0) = some (padB n)
  | 0, j, h => by
    obtain rfl : j = padZ n := by omega
    have hz : padZ n < 64 := Nat.mod_lt _ (by decide)
    have hv := pad_even n
    have hl : ((128 : Int) :: List.replicate (padZ n) 0).length = padZ n + 1 := by rw [List.length_cons, List.length_replicate]
    have hr := ref_loop n hn (128 :: List.replicate (padZ n) 0) (by omega) 8 0 rfl
    rw [← padB_eq, Nat.pow_zero, Nat.div_one] at hr
    have a2 : wrap64 (((n % 64 : Nat) : Int) + ((padZ n + 1 : Nat) : Int)) = ((n % 64 + padZ n + 1 : Nat) : Int) := by unfold wrap64; omega
    have a3 : wrap64 (((n % 64 + padZ n + 1 : Nat) : Int) + 8) = ((n % 64 + padZ n + 9 : Nat) : Int) := by unfold wrap64; omega
    have a4 : (((n % 64 + padZ n + 9) % 64 : Nat) : Int) = 0 := by omega
    have a5 : IntKind.u64.wrap (IntKind.u64.wrap (n : Int) * 8) = ((n * 8 : Nat) : Int) := by rw [IntKind.wrap_u64, IntKind.wrap_u64]; omega
    rw [muleteerref02_Pad.l0, hl, tm64, a2, a3, tm64, a4, if_pos rfl, a5]
    exact hr
  | d + 1, j, h => by
    have hz : padZ n < 64 := Nat.mod_lt _ (by decide)
    have hl : ((128 : Int) :: List.replicate j 0).length = j + 1 := by rw [List.length_cons, List.length_replicate]
    have a2 : wrap64 (((n % 64 : Nat) : Int) + ((j + 1 : Nat) : Int)) = ((n % 64 + j + 1 : Nat) : Int) := by unfold wrap64; omega
    have a3 : wrap64 (((n % 64 + j + 1 : Nat) : Int) + 8) = ((n % 64 + j + 9 : Nat) : Int) := by unfold wrap64; omega
    have a4 : ¬ (((n % 64 + j + 9) % 64 : Nat) : Int) = 0 := by unfold padZ at h; omega
    have a6 : ((128 : Int) :: List.replicate j 0) ++ [0] = 128 :: List.replicate (j + 1) 0 := by rw [List.replicate_succ', List.cons_append]
    have ih := ref_zeros n hn d (j + 1) (by omega)
    have a7 : j + 1 < 140737488355328 := by omega
    rw [show d + 1 + 10 = (d + 10) + 1 by omega, muleteerref02_Pad.l0, hl, tm64, a2, a3, tm64, if_neg a4, if_pos a7, a6]
    exact ih
theorem pad_up2 (n : Nat) (l : List Int) (r : ByteArray) : ∀ (d k : Nat), muleteerref02_Pad.l0 k (n : Int) l = some r → muleteerref02_Pad.l0 (k + d) (n : Int) l = some r
  | 0, _, h => h
  | d + 1, k, h => (muleteerref02_Pad.mono_l (k + d)).1 (n : Int) l r (pad_up2 n l r d k h)
theorem refpad_walk (n : Nat) (hn : n ≤ 1152921504606846976) (w : World) : Calls Try.prog 11 #[.int .i64 (n : Int)] w fun e w' => e = .returned (.string (padB n)) ∧ Below w.heap.size w w' :=
  muleteerref02_Pad.calls (padZ n + 10) _ _ w (ref_zeros n hn (padZ n) 0 (by omega))
theorem pad_none (a : Int) (h : a < 0 ∨ a > 1152921504606846976) (w : World) : Calls Try.prog 10 #[.int .i64 a] w fun e w' => e = .returned (.string ⟨#[]⟩) ∧ Below w.heap.size w w' := by
  refine sha_Pad.calls 1 _ _ w ?_
  rcases h with h | h
  · rw [sha_Pad.f, if_pos h, sha_Pad.j0, if_pos rfl]
  · rw [sha_Pad.f, if_neg (by omega), sha_Pad.j0, if_pos (decide_eq_true h)]
set_option maxRecDepth 100000 in
theorem ShaPads_walk (a0 : Int) (w : World) : Calls Try.prog 4 #[.int .i64 a0] w fun e w' => e = .returned (.bool true) ∧ Below w.heap.size w w' := by
  by_cases h : 0 ≤ a0 ∧ a0 ≤ 1152921504606846976
  · obtain ⟨n, rfl⟩ : ∃ n : Nat, a0 = n := ⟨a0.toNat, by omega⟩
    have hn : n ≤ 1152921504606846976 := by omega
    have HP := Lib.hid (pad_walk n hn)
    have HR := Lib.hid (refpad_walk n hn)
    have hsz := padB_size n
    have hv := pad_even n
    have hz : padZ n < 64 := Nat.mod_lt _ (by decide)
    obtain ⟨S, hS⟩ : ∃ S, padB n = S := ⟨_, rfl⟩
    rw [hS] at HP HR hsz
    have c1 : ¬ (n : Int) < 0 := by omega
    have c2 : ¬ (1152921504606846976 : Int) < (n : Int) := by omega
    have z0 : (n : Int) % 64 + (S.size : Int) < 200 := by omega
    have z1 : (0 : Int) ≤ (n : Int) % 64 + (S.size : Int) := by omega
    have z2 : ((n : Int) % 64 + (S.size : Int)) % 64 = 0 := by omega
    have z3 : (S.size : Int) ≤ 72 := by omega
    clear hS hsz hv hz
    go_enter Try.func4, Try.ntmps4
    go_wp2_with (first
      | (go_at_call 10; (with_reducible refine (HP.out _).mono ?_); rintro e w1 ⟨rfl, hb1⟩)
      | (go_at_call 7; (with_reducible refine (awake_walk _).mono ?_); rintro e w2 ⟨rfl, hb2⟩)
      | (go_at_call 11; (with_reducible refine (HR.out _).mono ?_); rintro e w3 ⟨rfl, hb3⟩))
    go_ret
    exact ⟨rfl, below_step (below_step hb1 hb2) hb3⟩
  · have h' : a0 < 0 ∨ a0 > 1152921504606846976 := by omega
    have HP := Lib.hid (pad_none a0 h')
    by_cases c1 : a0 < 0
    · go_enter Try.func4, Try.ntmps4
      go_wp2_with (first
        | (go_at_call 10; (with_reducible refine (HP.out _).mono ?_); rintro e w1 ⟨rfl, hb1⟩)
        | (go_at_call 7; (with_reducible refine (awake_walk _).mono ?_); rintro e w2 ⟨rfl, hb2⟩))
      go_ret
      exact ⟨rfl, below_step hb1 hb2⟩
    · have c2 : (1152921504606846976 : Int) < a0 := by omega
      go_enter Try.func4, Try.ntmps4
      go_wp2_with (first
        | (go_at_call 10; (with_reducible refine (HP.out _).mono ?_); rintro e w1 ⟨rfl, hb1⟩)
        | (go_at_call 7; (with_reducible refine (awake_walk _).mono ?_); rintro e w2 ⟨rfl, hb2⟩))
      go_ret
      exact ⟨rfl, below_step hb1 hb2⟩
end Go.Proofs.Ytndfpidilodmgaa.Hand
