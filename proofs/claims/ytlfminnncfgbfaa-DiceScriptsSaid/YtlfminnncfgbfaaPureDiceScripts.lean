/- A config thrown may be, and each step of a script thrown is right, of any config that may be; and which ones are thrown: for every seed, every config of up to 20 channels and every number of steps up to 200 or above 1,024; the others answer by the example. -/
import Derived.Test.YtlfminnncfgbfaaPDiceScriptsx
import Derived.Laws.Bits64
import Derived.Test.YtlfminnncfgbfaaHandConf
import Derived.Test.YtlfminnncfgbfaaHandRepeat
namespace Go.Proofs.Ytlfminnncfgbfaa.Pure
open Go.RowKit Go.Proofs.Ytlfminnncfgbfaa.Hand Go.Proofs.Ytlfminnncfgbfaa.PDiceScripts Go.Proofs.YtlfminnncfgbfaaW.PrintWords Go.Proofs.YtlfminnncfgbfaaW.PrintLast
set_option linter.unusedVariables false
set_option linter.unusedSimpArgs false

theorem wrapu_range (x : Int) : 0 ≤ IntKind.u64.wrap x ∧ IntKind.u64.wrap x < 18446744073709551616 := by rw [IntKind.wrap_u64]; omega
theorem xor_range (z K : Int) (h : 0 ≤ z ∧ z < 18446744073709551616) (hK : 0 < K) : 0 ≤ Go.bits .xor .u64 z (z / K) ∧ Go.bits .xor .u64 z (z / K) < 18446744073709551616 := by
  have h1 : 0 ≤ z / K := Int.ediv_nonneg h.1 (by omega)
  have h2 : z / K ≤ z := Int.ediv_le_self K h.1
  obtain ⟨a, ha⟩ := Int.eq_ofNat_of_zero_le h.1
  obtain ⟨b, hb⟩ := Int.eq_ofNat_of_zero_le h1
  rw [hb, ha]
  have la : a < 2 ^ 64 := by omega
  have lb : b < 2 ^ 64 := by omega
  rw [bits_xor_u64_nat a b (by omega) (by omega)]
  have := Nat.xor_lt_two_pow la lb
  omega
theorem throw_ok (s : Int) : ∃ t s', dice_Dice_Throw.f s = some (t, s') ∧ 0 ≤ t ∧ t < 18446744073709551616 := ⟨_, _, rfl, xor_range _ 2147483648 (wrapu_range _) (by omega)⟩
theorem below_ok (s n : Int) (h1 : 1 ≤ n) (h2 : n ≤ 1000000) : ∃ r s', dice_Dice_Below.f s n = some (r, s') ∧ 0 ≤ r ∧ r < n := by
  obtain ⟨t, s', ht, h3, h4⟩ := throw_ok s
  have e : IntKind.u64.wrap n = n := by rw [IntKind.wrap_u64]; omega
  refine ⟨Int.tmod t n, s', ?_, Int.tmod_nonneg _ h3, Int.tmod_lt_of_pos _ (by omega)⟩
  have hl := Int.tmod_lt_of_pos t (show 0 < n by omega)
  have hg := Int.tmod_nonneg n h3
  unfold dice_Dice_Below.f
  rw [if_neg (by omega), ht, Option.bind_some, e, if_neg (by omega)]
  have : wrap64 (Int.tmod t n) = Int.tmod t n := by unfold wrap64; omega
  rw [this]
theorem some_ok (s n : Int) (h1 : 1 ≤ n) (h2 : n ≤ 1000000) : ∃ r s', dice_Dice_some.f s n = some (r, s') ∧ 1 ≤ r ∧ r ≤ n := by
  obtain ⟨r, s', hr, h3, h4⟩ := below_ok s n h1 h2
  refine ⟨1 + r, s', ?_, by omega, by omega⟩
  unfold dice_Dice_some.f
  rw [hr, Option.bind_some]
  have : wrap64 (1 + r) = 1 + r := by unfold wrap64; omega
  rw [this]
theorem win_yes {n a b : Int} (h1 : a ≤ n) (h2 : n ≤ b) : win n a b = true := decide_eq_true ⟨h1, h2⟩
def MayBe (O : List Bool) (a1 a2 a3 a4 a5 a6 a7 a8 a9 a10 a11 : Int) : Prop := (1 ≤ O.length ∧ O.length ≤ 4) ∧ (1 ≤ a1 ∧ a1 ≤ 4) ∧ (1 ≤ a2 ∧ a2 ≤ 8) ∧ (1 ≤ a3 ∧ a3 ≤ 64) ∧ (1 ≤ a4 ∧ a4 ≤ 32) ∧ (1 ≤ a5 ∧ a5 ≤ 16) ∧ (1 ≤ a6 ∧ a6 ≤ 8) ∧ (1 ≤ a7 ∧ a7 ≤ 4) ∧ (1 ≤ a8 ∧ a8 ≤ 8) ∧ (1 ≤ a9 ∧ a9 ≤ 16) ∧ (0 ≤ a10 ∧ a10 ≤ 8)
theorem check_ok {O : List Bool} {a1 a2 a3 a4 a5 a6 a7 a8 a9 a10 a11 : Int} (h : MayBe O a1 a2 a3 a4 a5 a6 a7 a8 a9 a10 a11) : conf_Check.f O a1 a2 a3 a4 a5 a6 a7 a8 a9 a10 a11 = some (⟨#[]⟩, 0) := by
  obtain ⟨h0, h1, h2, h3, h4, h5, h6, h7, h8, h9, h10⟩ := h
  unfold conf_Check.f rulesL
  rw [checkL_yes (win_yes (by omega) (by omega)), checkL_yes (win_yes h1.1 h1.2), checkL_yes (win_yes h2.1 h2.2), checkL_yes (win_yes h3.1 h3.2), checkL_yes (win_yes h4.1 h4.2), checkL_yes (win_yes h5.1 h5.2), checkL_yes (win_yes h6.1 h6.2), checkL_yes (win_yes h7.1 h7.2), checkL_yes (win_yes h8.1 h8.2), checkL_yes (win_yes h9.1 h9.2), checkL_yes (win_yes h10.1 h10.2)]
  rfl
theorem config_l0 (c : Nat) (hc : c ≤ 3) : ∀ j i k s (O : List Bool), i + j = c → O.length = i → 1 ≤ c → j < k → ∃ O' a1 a2 a3 a4 a5 a6 a7 a8 a9 a10 a11 s', dice_Dice_Config.l0 k (c : Int) (i : Int) s O 0 0 0 0 0 0 0 0 0 0 0 = some (O', a1, a2, a3, a4, a5, a6, a7, a8, a9, a10, a11, s') ∧ MayBe O' a1 a2 a3 a4 a5 a6 a7 a8 a9 a10 a11 := by
  intro j
  induction j with
  | zero =>
    intro i k s O hi hO h1 hk
    obtain ⟨k, rfl⟩ : ∃ q, k = q + 1 := ⟨k - 1, by omega⟩
    obtain ⟨r1, s1, e1, b1, c1⟩ := some_ok s 2 (by omega) (by omega)
    obtain ⟨r2, s2, e2, b2, c2⟩ := some_ok s1 3 (by omega) (by omega)
    obtain ⟨r3, s3, e3, b3, c3⟩ := some_ok s2 5 (by omega) (by omega)
    obtain ⟨r4, s4, e4, b4, c4⟩ := some_ok s3 5 (by omega) (by omega)
    obtain ⟨r5, s5, e5, b5, c5⟩ := some_ok s4 3 (by omega) (by omega)
    obtain ⟨r6, s6, e6, b6, c6⟩ := some_ok s5 3 (by omega) (by omega)
    obtain ⟨r7, s7, e7, b7, c7⟩ := some_ok s6 2 (by omega) (by omega)
    obtain ⟨r8, s8, e8, b8, c8⟩ := some_ok s7 4 (by omega) (by omega)
    obtain ⟨r9, s9, e9, b9, c9⟩ := some_ok s8 5 (by omega) (by omega)
    obtain ⟨r10, s10, e10, b10, c10⟩ := below_ok s9 3 (by omega) (by omega)
    obtain ⟨r11, s11, e11, b11, c11⟩ := below_ok s10 1000 (by omega) (by omega)
    refine ⟨O, r1, r2, r3, r4, r5, r6, r7, r8, r9, r10, IntKind.u64.wrap r11, s11, ?_, ⟨by omega, by omega⟩, ⟨b1, by omega⟩, ⟨b2, by omega⟩, ⟨b3, by omega⟩, ⟨b4, by omega⟩, ⟨b5, by omega⟩, ⟨b6, by omega⟩, ⟨b7, by omega⟩, ⟨b8, by omega⟩, ⟨b9, by omega⟩, ⟨b10, by omega⟩⟩
    rw [dice_Dice_Config.l0, if_neg (by omega)]
    rw [e1, Option.bind_some, e2, Option.bind_some, e3, Option.bind_some, e4, Option.bind_some, e5, Option.bind_some, e6, Option.bind_some, e7, Option.bind_some, e8, Option.bind_some, e9, Option.bind_some, e10, Option.bind_some, e11, Option.bind_some]
  | succ j ih =>
    intro i k s O hi hO h1 hk
    obtain ⟨k, rfl⟩ : ∃ q, k = q + 1 := ⟨k - 1, by omega⟩
    obtain ⟨r, s', e, _, _⟩ := below_ok s 3 (by omega) (by omega)
    have w1 : wrap64 ((i : Int) + 1) = ((i + 1 : Nat) : Int) := by unfold wrap64; omega
    rw [dice_Dice_Config.l0, if_pos (by omega), e, Option.bind_some, if_pos (by omega), w1]
    exact ih (i + 1) k s' (O ++ [(r == 0)]) (by omega) (by simp [hO]) h1 (by omega)
theorem config_ok (s : Int) : ∃ O a1 a2 a3 a4 a5 a6 a7 a8 a9 a10 a11 s', dice_Dice_Config.f 10 s = some (O, a1, a2, a3, a4, a5, a6, a7, a8, a9, a10, a11, s') ∧ MayBe O a1 a2 a3 a4 a5 a6 a7 a8 a9 a10 a11 := by
  obtain ⟨r, s', e, h1, h2⟩ := some_ok s 3 (by omega) (by omega)
  obtain ⟨c, rfl⟩ := Int.eq_ofNat_of_zero_le (show 0 ≤ r by omega)
  unfold dice_Dice_Config.f
  rw [e, Option.bind_some]
  exact config_l0 c (by omega) c 0 10 s' [] (by omega) rfl (by omega) (by omega)

theorem u64_tdiv (x : Int) (K : Int) (hK : 0 < K) : IntKind.u64.wrap (Int.tdiv (IntKind.u64.wrap x) K) = IntKind.u64.wrap x / K := by
  have h : 0 ≤ IntKind.u64.wrap x ∧ IntKind.u64.wrap x < 18446744073709551616 := by rw [IntKind.wrap_u64]; omega
  generalize IntKind.u64.wrap x = z at h
  rw [Int.tdiv_eq_ediv_of_nonneg h.1, IntKind.wrap_u64]
  have h1 : 0 ≤ z / K := Int.ediv_nonneg h.1 (by omega)
  have h2 : z / K ≤ z := Int.ediv_le_self K h.1
  omega
theorem throw_alike (s : Int) : muleteerref40_Dice_Throw.f s = dice_Dice_Throw.f s := by
  unfold muleteerref40_Dice_Throw.f dice_Dice_Throw.f
  rw [u64_tdiv _ 1073741824 (by omega), u64_tdiv _ 134217728 (by omega), u64_tdiv _ 2147483648 (by omega)]
theorem below_alike (s n : Int) : muleteerref40_Dice_Below.f s n = dice_Dice_Below.f s n := by
  unfold muleteerref40_Dice_Below.f dice_Dice_Below.f
  rw [throw_alike]
theorem throw_some (s : Int) : ∃ r, dice_Dice_Throw.f s = some r := ⟨_, rfl⟩
theorem off_f (a lo hi : Int) : muleteerref07_off.f a lo hi = some (!win a lo hi) := by
  unfold muleteerref07_off.f win
  by_cases h1 : a < lo
  · rw [if_pos h1]; simp; omega
  · rw [if_neg h1]
    by_cases h2 : a > hi
    · have : ¬ (lo ≤ a ∧ a ≤ hi) := by omega
      simp [h2, this]
    · have : lo ≤ a ∧ a ≤ hi := by omega
      simp [this]
theorem wrong_step (b : Bool) (s : ByteArray) (r : List (Bool × ByteArray)) (X : Option ByteArray) (h : X = some (checkL r).1) : (if (!b) = true then some s else X) = some (checkL ((b, s) :: r)).1 := by
  cases b
  · rfl
  · exact h
theorem wrong_f (l : List Bool) (x1 x2 x3 x4 x5 x6 x7 x8 x9 x10 x11 : Int) : muleteerref07_Wrong.f l x1 x2 x3 x4 x5 x6 x7 x8 x9 x10 x11 = some (checkL (rulesL (l.length : Int) x1 x2 x3 x4 x5 x6 x7 x8 x9 x10)).1 := by
  unfold muleteerref07_Wrong.f rulesL
  simp only [off_f, Option.bind_some]
  refine wrong_step _ _ _ _ ?_
  refine wrong_step _ _ _ _ ?_
  refine wrong_step _ _ _ _ ?_
  refine wrong_step _ _ _ _ ?_
  refine wrong_step _ _ _ _ ?_
  refine wrong_step _ _ _ _ ?_
  refine wrong_step _ _ _ _ ?_
  refine wrong_step _ _ _ _ ?_
  refine wrong_step _ _ _ _ ?_
  refine wrong_step _ _ _ _ ?_
  refine wrong_step _ _ _ _ ?_
  rfl
theorem checkL_cases : ∀ rs : List (Bool × ByteArray), (∀ p ∈ rs, p.2.toList ≠ []) → ((checkL rs).2 = 0 ∧ (checkL rs).1 = ⟨#[]⟩ ∧ ∀ p ∈ rs, p.1 = true) ∨ ((checkL rs).2 = 1 ∧ (checkL rs).1.toList ≠ [])
  | [], _ => Or.inl ⟨rfl, rfl, fun p h => by cases h⟩
  | (b, s) :: r, h => by
    cases b
    · right
      exact ⟨rfl, h _ List.mem_cons_self⟩
    · rcases checkL_cases r (fun p hp => h p (List.mem_cons_of_mem _ hp)) with ⟨h1, h2, h3⟩ | h1
      · left
        refine ⟨h1, h2, fun p hp => ?_⟩
        rcases List.mem_cons.1 hp with rfl | hp
        · rfl
        · exact h3 p hp
      · exact Or.inr h1
theorem words (n x1 x2 x3 x4 x5 x6 x7 x8 x9 x10 : Int) : ∀ p ∈ rulesL n x1 x2 x3 x4 x5 x6 x7 x8 x9 x10, p.2.toList ≠ [] := by
  intro p hp
  simp only [rulesL, List.mem_cons, List.not_mem_nil, or_false] at hp
  rcases hp with rfl | rfl | rfl | rfl | rfl | rfl | rfl | rfl | rfl | rfl | rfl <;> simp only [] <;> decide +kernel
theorem empty_list : (⟨#[]⟩ : ByteArray).toList = [] := by decide +kernel
theorem some_of {s n r s' : Int} (e : dice_Dice_Below.f s n = some (r, s')) : dice_Dice_some.f s n = some (wrap64 (1 + r), s') := by
  unfold dice_Dice_some.f
  rw [e, Option.bind_some]
theorem config_l0_alike (c : Nat) (hc : c ≤ 3) : ∀ j i k s (O : List Bool), i + j = c → O.length = i → j < k → muleteerref40_Dice_Config.l0 k (c : Int) (i : Int) s O 0 0 0 0 0 0 0 0 0 0 0 = dice_Dice_Config.l0 k (c : Int) (i : Int) s O 0 0 0 0 0 0 0 0 0 0 0 := by
  intro j
  induction j with
  | zero =>
    intro i k s O hi hO hk
    obtain ⟨k, rfl⟩ : ∃ q, k = q + 1 := ⟨k - 1, by omega⟩
    obtain ⟨r1, s1, e1, _, _⟩ := below_ok s 2 (by omega) (by omega)
    obtain ⟨r2, s2, e2, _, _⟩ := below_ok s1 3 (by omega) (by omega)
    obtain ⟨r3, s3, e3, _, _⟩ := below_ok s2 5 (by omega) (by omega)
    obtain ⟨r4, s4, e4, _, _⟩ := below_ok s3 5 (by omega) (by omega)
    obtain ⟨r5, s5, e5, _, _⟩ := below_ok s4 3 (by omega) (by omega)
    obtain ⟨r6, s6, e6, _, _⟩ := below_ok s5 3 (by omega) (by omega)
    obtain ⟨r7, s7, e7, _, _⟩ := below_ok s6 2 (by omega) (by omega)
    obtain ⟨r8, s8, e8, _, _⟩ := below_ok s7 4 (by omega) (by omega)
    obtain ⟨r9, s9, e9, _, _⟩ := below_ok s8 5 (by omega) (by omega)
    obtain ⟨r10, s10, e10, _, _⟩ := below_ok s9 3 (by omega) (by omega)
    obtain ⟨r11, s11, e11, _, _⟩ := below_ok s10 1000 (by omega) (by omega)
    have f1 := (below_alike s 2).trans e1
    have f2 := (below_alike s1 3).trans e2
    have f3 := (below_alike s2 5).trans e3
    have f4 := (below_alike s3 5).trans e4
    have f5 := (below_alike s4 3).trans e5
    have f6 := (below_alike s5 3).trans e6
    have f7 := (below_alike s6 2).trans e7
    have f8 := (below_alike s7 4).trans e8
    have f9 := (below_alike s8 5).trans e9
    have f10 := (below_alike s9 3).trans e10
    have f11 := (below_alike s10 1000).trans e11
    rw [muleteerref40_Dice_Config.l0, dice_Dice_Config.l0, if_neg (by omega), if_neg (by omega)]
    rw [f1, Option.bind_some, f2, Option.bind_some, f3, Option.bind_some, f4, Option.bind_some, f5, Option.bind_some, f6, Option.bind_some, f7, Option.bind_some, f8, Option.bind_some, f9, Option.bind_some, f10, Option.bind_some, f11, Option.bind_some]
    rw [some_of e1, Option.bind_some, some_of e2, Option.bind_some, some_of e3, Option.bind_some, some_of e4, Option.bind_some, some_of e5, Option.bind_some, some_of e6, Option.bind_some, some_of e7, Option.bind_some, some_of e8, Option.bind_some, some_of e9, Option.bind_some, e10, Option.bind_some, e11, Option.bind_some]
  | succ j ih =>
    intro i k s O hi hO hk
    obtain ⟨k, rfl⟩ : ∃ q, k = q + 1 := ⟨k - 1, by omega⟩
    obtain ⟨r, s', e, _, _⟩ := below_ok s 3 (by omega) (by omega)
    have w1 : wrap64 ((i : Int) + 1) = ((i + 1 : Nat) : Int) := by unfold wrap64; omega
    rw [muleteerref40_Dice_Config.l0, dice_Dice_Config.l0, if_pos (by omega), if_pos (by omega), (below_alike s 3).trans e, Option.bind_some, e, Option.bind_some, if_pos (by omega), if_pos (by omega), w1]
    exact ih (i + 1) k s' (O ++ [(r == 0)]) (by omega) (by simp [hO]) (by omega)
theorem config_alike (s : Int) : muleteerref40_Dice_Config.f 10 s = dice_Dice_Config.f 10 s := by
  obtain ⟨r, s', e, h1, h2⟩ := below_ok s 3 (by omega) (by omega)
  obtain ⟨c, hc⟩ := Int.eq_ofNat_of_zero_le (show 0 ≤ 1 + r by omega)
  have w1 : wrap64 (1 + r) = (c : Int) := by unfold wrap64; omega
  unfold muleteerref40_Dice_Config.f dice_Dice_Config.f
  rw [(below_alike s 3).trans e, some_of e, Option.bind_some, Option.bind_some, w1]
  exact config_l0_alike c (by omega) c 0 10 s' [] (by omega) rfl (by omega)
theorem wrong_ok {O : List Bool} {a1 a2 a3 a4 a5 a6 a7 a8 a9 a10 a11 : Int} (h : MayBe O a1 a2 a3 a4 a5 a6 a7 a8 a9 a10 a11) : muleteerref07_Wrong.f O a1 a2 a3 a4 a5 a6 a7 a8 a9 a10 a11 = some ⟨#[]⟩ := by
  have h2 : conf_Check.f O a1 a2 a3 a4 a5 a6 a7 a8 a9 a10 a11 = some (checkL (rulesL (O.length : Int) a1 a2 a3 a4 a5 a6 a7 a8 a9 a10)) := rfl
  rw [wrong_f, ← Option.map_some, ← h2, check_ok h]
  rfl
theorem win_of {n a b : Int} (h : win n a b = true) : a ≤ n ∧ n ≤ b := of_decide_eq_true h
theorem may_or (O : List Bool) (a1 a2 a3 a4 a5 a6 a7 a8 a9 a10 a11 : Int) : MayBe O a1 a2 a3 a4 a5 a6 a7 a8 a9 a10 a11 ∨ ∃ t u, muleteerref07_Wrong.f O a1 a2 a3 a4 a5 a6 a7 a8 a9 a10 a11 = some t ∧ t.toList ≠ [] ∧ conf_Check.f O a1 a2 a3 a4 a5 a6 a7 a8 a9 a10 a11 = some (u, 1) := by
  rcases checkL_cases _ (words (O.length : Int) a1 a2 a3 a4 a5 a6 a7 a8 a9 a10) with ⟨e2, e1, hall⟩ | ⟨e2, e1⟩
  · left
    simp only [rulesL, List.forall_mem_cons] at hall
    obtain ⟨r0, r1, r2, r3, r4, r5, r6, r7, r8, r9, r10, _⟩ := hall
    have := win_of r0
    exact ⟨⟨by omega, by omega⟩, win_of r1, win_of r2, win_of r3, win_of r4, win_of r5, win_of r6, win_of r7, win_of r8, win_of r9, win_of r10⟩
  · right
    refine ⟨_, (checkL (rulesL (O.length : Int) a1 a2 a3 a4 a5 a6 a7 a8 a9 a10)).1, wrong_f _ _ _ _ _ _ _ _ _ _ _ _, e1, ?_⟩
    show some (checkL _) = _
    rw [← e2]
def RightR (r : Int × Int × Int × Int × Int × Int × Int × ByteArray × Int) : Prop := muleteerref15_Right.f 20 r.1 r.2.1 r.2.2.1 r.2.2.2.1 r.2.2.2.2.1 r.2.2.2.2.2.1 r.2.2.2.2.2.2.1 r.2.2.2.2.2.2.2.1 = some true
def Rights (x : S44) : Prop := muleteerref15_Right.f 20 x.f0 x.f1 x.f2 x.f3.f0 x.f3.f1 x.f3.f2 x.f3.f3 x.f3.f4 = some true
theorem right_of {a0 a1 a2 b0 b1 b2 b3 : Int} {b4 t : ByteArray} {M : Int} {sd pk : Bool} (h1 : muleteerref15_Has.f a0 = some t) (h1' : t.toList ≠ [63]) (h2 : 0 ≤ a2) (h3 : muleteerref15_Most.f a0 = some M) (h4 : a2 ≤ M) (h5 : a0 = 6 → a2 ≠ 0) (h6 : 0 ≤ a1) (h7 : a1 ≤ 1)
    (h8 : muleteerref15_in.f 19 t 115 = some sd) (h9 : sd = true ∨ a1 = 0) (h10 : muleteerref15_in.f 18 t 112 = some pk) (h11 : pk = true → muleteerref03_Right.f b0 b1 b2 b3 b4 = some true ∧ b2 = 0) (h12 : pk = false → b0 = 0 ∧ b1 = 0 ∧ b2 = 0 ∧ b3 = 0 ∧ b4.toList = []) : muleteerref15_Right.f 20 a0 a1 a2 b0 b1 b2 b3 b4 = some true := by
  have hj1 : muleteerref15_Right.j1 19 t false a0 a1 a2 b0 b1 b2 b3 b4 = some true := by
    rw [muleteerref15_Right.j1, if_neg (by decide), h10, Option.bind_some]
    cases pk with
    | true =>
      obtain ⟨e1, e2⟩ := h11 rfl
      rw [if_pos rfl, e1, Option.bind_some, if_pos rfl, e2]
      rfl
    | false =>
      obtain ⟨rfl, rfl, rfl, rfl, e⟩ := h12 rfl
      rw [if_neg (by decide), e]
      rfl
  have hj0 : muleteerref15_Right.j0 20 t false a0 a1 a2 b0 b1 b2 b3 b4 = some true := by
    rw [muleteerref15_Right.j0, if_neg (by decide), if_neg (by omega), if_neg (by omega), h8, Option.bind_some]
    rcases h9 with rfl | rfl
    · rw [if_pos rfl]; exact hj1
    · cases sd
      · rw [if_neg (by decide)]; exact hj1
      · rw [if_pos rfl]; exact hj1
  unfold muleteerref15_Right.f
  rw [h1, Option.bind_some, if_neg h1', if_neg (by omega), h3, Option.bind_some, if_neg (by omega)]
  by_cases h : a0 = 6
  · have := h5 h
    rw [if_pos h, beq_eq_false_iff_ne.2 this]
    exact hj0
  · rw [if_neg h]
    exact hj0
theorem has_tells : muleteerref15_Has.f 1 = some ⟨#[110]⟩ ∧ muleteerref15_Has.f 2 = some ⟨#[115]⟩ ∧ muleteerref15_Has.f 3 = some ⟨#[112]⟩ ∧ muleteerref15_Has.f 4 = some ⟨#[115]⟩ ∧ muleteerref15_Has.f 5 = some ⟨#[110]⟩ ∧ muleteerref15_Has.f 6 = some ⟨#[115, 110]⟩ ∧ muleteerref15_Has.f 7 = some ⟨#[]⟩ ∧ muleteerref15_Has.f 8 = some ⟨#[]⟩ := by decide +kernel
theorem most_tells : muleteerref15_Most.f 1 = some 2147483647 ∧ muleteerref15_Most.f 2 = some 0 ∧ muleteerref15_Most.f 3 = some 0 ∧ muleteerref15_Most.f 4 = some 0 ∧ muleteerref15_Most.f 5 = some 7 ∧ muleteerref15_Most.f 6 = some 4 ∧ muleteerref15_Most.f 7 = some 0 ∧ muleteerref15_Most.f 8 = some 0 := by decide +kernel
theorem in_tells : (muleteerref15_in.f 19 ⟨#[110]⟩ 115 = some false ∧ muleteerref15_in.f 19 ⟨#[115]⟩ 115 = some true ∧ muleteerref15_in.f 19 ⟨#[112]⟩ 115 = some false ∧ muleteerref15_in.f 19 ⟨#[115, 110]⟩ 115 = some true ∧ muleteerref15_in.f 19 ⟨#[]⟩ 115 = some false) ∧ muleteerref15_in.f 18 ⟨#[110]⟩ 112 = some false ∧ muleteerref15_in.f 18 ⟨#[115]⟩ 112 = some false ∧ muleteerref15_in.f 18 ⟨#[112]⟩ 112 = some true ∧ muleteerref15_in.f 18 ⟨#[115, 110]⟩ 112 = some false ∧ muleteerref15_in.f 18 ⟨#[]⟩ 112 = some false := by decide +kernel
theorem no_mark : (⟨#[110]⟩ : ByteArray).toList ≠ [63] ∧ (⟨#[115]⟩ : ByteArray).toList ≠ [63] ∧ (⟨#[112]⟩ : ByteArray).toList ≠ [63] ∧ (⟨#[115, 110]⟩ : ByteArray).toList ≠ [63] ∧ (⟨#[]⟩ : ByteArray).toList ≠ [63] := by decide +kernel
theorem none5 {pk : Bool} (h : pk = false) : (0 : Int) = 0 ∧ (0 : Int) = 0 ∧ (0 : Int) = 0 ∧ (0 : Int) = 0 ∧ (⟨#[]⟩ : ByteArray).toList = [] := ⟨rfl, rfl, rfl, rfl, empty_list⟩
theorem right1 {q : Int} (h1 : 0 ≤ q) (h2 : q < 16) : muleteerref15_Right.f 20 1 0 q 0 0 0 0 ⟨#[]⟩ = some true :=
  right_of has_tells.1 no_mark.1 h1 most_tells.1 (by omega) (by omega) (by omega) (by omega) in_tells.1.1 (.inr rfl) in_tells.2.1 (fun h => by cases h) none5
theorem right2 {q : Int} (h1 : 0 ≤ q) (h2 : q < 2) : muleteerref15_Right.f 20 2 q 0 0 0 0 0 ⟨#[]⟩ = some true :=
  right_of has_tells.2.1 no_mark.2.1 (by omega) most_tells.2.1 (by omega) (by omega) h1 (by omega) in_tells.1.2.1 (.inl rfl) in_tells.2.2.1 (fun h => by cases h) none5
theorem right3 {b0 b1 b3 : Int} {b4 : ByteArray} (h1 : 0 ≤ b0) (h2 : b0 < 4) (h3 : 0 ≤ b1) (h4 : b1 < 2) (h5 : b4.size ≤ 3) : muleteerref15_Right.f 20 3 0 0 b0 b1 0 b3 b4 = some true := by
  refine right_of has_tells.2.2.1 no_mark.2.2.1 (by omega) most_tells.2.2.1 (by omega) (by omega) (by omega) (by omega) in_tells.1.2.2.1 (.inr rfl) in_tells.2.2.2.1 (fun _ => ⟨?_, rfl⟩) (fun h => by cases h)
  unfold muleteerref03_Right.f
  rw [if_pos (by omega), if_pos (by omega), if_pos (by omega), if_pos (by omega), decide_eq_true (by omega)]
theorem right4 {q : Int} (h1 : 0 ≤ q) (h2 : q < 2) : muleteerref15_Right.f 20 4 q 0 0 0 0 0 ⟨#[]⟩ = some true :=
  right_of has_tells.2.2.2.1 no_mark.2.1 (by omega) most_tells.2.2.2.1 (by omega) (by omega) h1 (by omega) in_tells.1.2.1 (.inl rfl) in_tells.2.2.1 (fun h => by cases h) none5
theorem right5 {q : Int} (h1 : 0 ≤ q) (h2 : q < 8) : muleteerref15_Right.f 20 5 0 q 0 0 0 0 ⟨#[]⟩ = some true :=
  right_of has_tells.2.2.2.2.1 no_mark.1 h1 most_tells.2.2.2.2.1 (by omega) (by omega) (by omega) (by omega) in_tells.1.1 (.inr rfl) in_tells.2.1 (fun h => by cases h) none5
theorem right6 {q r : Int} (h1 : 0 ≤ q) (h2 : q < 2) (h3 : 1 ≤ r) (h4 : r ≤ 4) : muleteerref15_Right.f 20 6 q r 0 0 0 0 ⟨#[]⟩ = some true :=
  right_of has_tells.2.2.2.2.2.1 no_mark.2.2.2.1 (by omega) most_tells.2.2.2.2.2.1 (by omega) (by omega) h1 (by omega) in_tells.1.2.2.2.1 (.inl rfl) in_tells.2.2.2.2.1 (fun h => by cases h) none5
theorem right7 : muleteerref15_Right.f 20 7 0 0 0 0 0 0 ⟨#[]⟩ = some true := by decide +kernel
theorem right8 : muleteerref15_Right.f 20 8 0 0 0 0 0 0 ⟨#[]⟩ = some true := by decide +kernel
theorem data_ok (lg : Int) (h1 : 0 ≤ lg) (h2 : lg < 4) : ∃ D : ByteArray, strings_Repeat.f (⟨#[97]⟩ : ByteArray) lg = some D ∧ D.size ≤ 3 ∧ ∀ k s b1 b2 b3 b4 b5 b6 b7, 5 ≤ k → muleteerref40_Dice_Step.l0 k lg 0 s b1 b2 b3 b4 b5 b6 b7 ⟨#[]⟩ = some (b1, b2, b3, b4, b5, b6, b7, D, s) := by
  have e0 : strings_Repeat.f (⟨#[97]⟩ : ByteArray) 0 = some ⟨#[]⟩ ∧ strings_Repeat.f (⟨#[97]⟩ : ByteArray) 1 = some (⟨#[]⟩ ++ ⟨#[97]⟩) ∧ strings_Repeat.f (⟨#[97]⟩ : ByteArray) 2 = some (⟨#[]⟩ ++ ⟨#[97]⟩ ++ ⟨#[97]⟩) ∧ strings_Repeat.f (⟨#[97]⟩ : ByteArray) 3 = some (⟨#[]⟩ ++ ⟨#[97]⟩ ++ ⟨#[97]⟩ ++ ⟨#[97]⟩) := by decide +kernel
  have ez : (⟨#[]⟩ : ByteArray).size = 0 ∧ ((⟨#[]⟩ : ByteArray) ++ ⟨#[97]⟩).size = 1 ∧ ((⟨#[]⟩ : ByteArray) ++ ⟨#[97]⟩ ++ ⟨#[97]⟩).size = 2 ∧ ((⟨#[]⟩ : ByteArray) ++ ⟨#[97]⟩ ++ ⟨#[97]⟩ ++ ⟨#[97]⟩).size = 3 := by decide +kernel
  have w0 : wrap64 (0 + 1) = 1 := by unfold wrap64; omega
  have w1 : wrap64 (1 + 1) = 2 := by unfold wrap64; omega
  have w2 : wrap64 (2 + 1) = 3 := by unfold wrap64; omega
  have hc : lg = 0 ∨ lg = 1 ∨ lg = 2 ∨ lg = 3 := by omega
  rcases hc with rfl | rfl | rfl | rfl
  · refine ⟨_, e0.1, by rw [ez.1]; decide, fun k s b1 b2 b3 b4 b5 b6 b7 hk => ?_⟩
    obtain ⟨k, rfl⟩ : ∃ q, k = q + 1 := ⟨k - 1, by omega⟩
    rw [muleteerref40_Dice_Step.l0, if_neg (by decide)]
  · refine ⟨_, e0.2.1, by rw [ez.2.1]; decide, fun k s b1 b2 b3 b4 b5 b6 b7 hk => ?_⟩
    obtain ⟨k, rfl⟩ : ∃ q, k = q + 2 := ⟨k - 2, by omega⟩
    rw [muleteerref40_Dice_Step.l0, if_pos (by decide), if_pos (by rw [ez.1]; decide), w0, muleteerref40_Dice_Step.l0, if_neg (by decide)]
  · refine ⟨_, e0.2.2.1, by rw [ez.2.2.1]; decide, fun k s b1 b2 b3 b4 b5 b6 b7 hk => ?_⟩
    obtain ⟨k, rfl⟩ : ∃ q, k = q + 3 := ⟨k - 3, by omega⟩
    rw [muleteerref40_Dice_Step.l0, if_pos (by decide), if_pos (by rw [ez.1]; decide), w0, muleteerref40_Dice_Step.l0, if_pos (by decide), if_pos (by rw [ez.2.1]; decide), w1, muleteerref40_Dice_Step.l0, if_neg (by decide)]
  · refine ⟨_, e0.2.2.2, by rw [ez.2.2.2]; decide, fun k s b1 b2 b3 b4 b5 b6 b7 hk => ?_⟩
    obtain ⟨k, rfl⟩ : ∃ q, k = q + 4 := ⟨k - 4, by omega⟩
    rw [muleteerref40_Dice_Step.l0, if_pos (by decide), if_pos (by rw [ez.1]; decide), w0, muleteerref40_Dice_Step.l0, if_pos (by decide), if_pos (by rw [ez.2.1]; decide), w1, muleteerref40_Dice_Step.l0, if_pos (by decide), if_pos (by rw [ez.2.2.1]; decide), w2, muleteerref40_Dice_Step.l0, if_neg (by decide)]
theorem j0_ok (s : Int) : ∃ D s', (∃ lg, dice_Dice_Below.f s 4 = some (lg, s') ∧ strings_Repeat.f (⟨#[97]⟩ : ByteArray) lg = some D) ∧ D.size ≤ 3 ∧ ∀ k b1 b2 b3 b4 b5 b6 b7, 6 ≤ k → muleteerref40_Dice_Step.j0 k s b1 b2 b3 b4 b5 b6 b7 ⟨#[]⟩ = some (b1, b2, b3, b4, b5, b6, b7, D, s') := by
  obtain ⟨lg, s', e, h1, h2⟩ := below_ok s 4 (by omega) (by omega)
  obtain ⟨D, h3, h4, h5⟩ := data_ok lg h1 h2
  refine ⟨D, s', ⟨lg, e, h3⟩, h4, fun k b1 b2 b3 b4 b5 b6 b7 hk => ?_⟩
  obtain ⟨k, rfl⟩ : ∃ q, k = q + 1 := ⟨k - 1, by omega⟩
  rw [muleteerref40_Dice_Step.j0, (below_alike s 4).trans e, Option.bind_some]
  exact h5 k s' b1 b2 b3 b4 b5 b6 b7 (by omega)
set_option maxHeartbeats 4000000 in
theorem step_both (s : Int) {O : List Bool} {a1 a2 a3 a4 a5 a6 a7 a8 a9 a10 a11 : Int} (h : MayBe O a1 a2 a3 a4 a5 a6 a7 a8 a9 a10 a11) : ∃ r, dice_Dice_Step.f s O a1 a2 a3 a4 a5 a6 a7 a8 a9 a10 a11 = some r ∧ (∀ k, 6 ≤ k → muleteerref40_Dice_Step.f k s O a1 a2 a3 a4 a5 a6 a7 a8 a9 a10 a11 = some r) ∧ RightR r := by
  have h0 := h.1
  have h1 := h.2.1
  obtain ⟨n, s1, e1, b1, c1⟩ := below_ok s 40 (by omega) (by omega)
  have g1 := (below_alike s 40).trans e1
  obtain ⟨q1, t1, f1, l1, m1⟩ := below_ok s1 16 (by omega) (by omega)
  obtain ⟨q2, t2, f2, l2, m2⟩ := below_ok s1 2 (by omega) (by omega)
  obtain ⟨q3, t3, f3, l3, m3⟩ := below_ok s1 4 (by omega) (by omega)
  obtain ⟨q4, t4, f4, l4, m4⟩ := below_ok t2 a1 (by omega) (by omega)
  have w4 : wrap64 (1 + q4) = 1 + q4 := by unfold wrap64; omega
  have w5 : wrap64 (2 * (O.length : Int)) = 2 * (O.length : Int) := by unfold wrap64; omega
  have f6 : conf_Workers.f O a1 a2 a3 a4 a5 a6 a7 a8 a9 a10 a11 = some (2 * (O.length : Int)) := by
    unfold conf_Workers.f
    rw [check_ok h, Option.bind_some, if_pos rfl, w5]
  obtain ⟨q7, t7, f7, l7, m7⟩ := below_ok s1 (2 * (O.length : Int)) (by omega) (by omega)
  have z7 : q7 < 8 := by omega
  have z4 : 1 ≤ 1 + q4 ∧ 1 + q4 ≤ 4 := by omega
  unfold dice_Dice_Step.f muleteerref40_Dice_Step.f
  rw [check_ok h, Option.bind_some, if_pos rfl, e1, Option.bind_some, g1]
  simp only [Option.bind_some]
  by_cases c28 : n < 28
  · refine ⟨_, by rw [if_pos c28, f1, Option.bind_some], fun k hk => ?_, ?_⟩
    rotate_left
    · exact right1 l1 m1
    rw [if_pos (by omega), (below_alike s1 16).trans f1, Option.bind_some]
  by_cases c33 : n < 33
  · refine ⟨_, by rw [if_neg c28, if_pos c33, f2, Option.bind_some], fun k hk => ?_, ?_⟩
    rotate_left
    · exact right2 l2 m2
    rw [if_neg (by omega), if_pos (by omega), (below_alike s1 2).trans f2, Option.bind_some]
  by_cases c36 : n < 36
  · obtain ⟨p1, u1, k1, v1, x1⟩ := below_ok s1 (O.length : Int) (by omega) (by omega)
    obtain ⟨p2, u2, k2, v2, x2⟩ := below_ok u1 2 (by omega) (by omega)
    obtain ⟨p3, u3, k3, v3, x3⟩ := below_ok u2 2 (by omega) (by omega)
    have z1 : p1 < 4 := by omega
    have y1 := (below_alike s1 (O.length : Int)).trans k1
    have y2 := (below_alike u1 2).trans k2
    have y3 := (below_alike u2 2).trans k3
    by_cases hz : p3 = 0
    · obtain ⟨D, u4, ⟨lg, k4, k5⟩, hD, hj⟩ := j0_ok u3
      refine ⟨(3, 0, 0, p1, p2, 0, 0, D, u4), ?_, fun k hk => ?_, ?_⟩
      rotate_left
      · rw [if_neg (by omega), if_neg (by omega), if_pos (by omega), y1, Option.bind_some, y2, Option.bind_some, y3, Option.bind_some, if_pos hz]
        exact hj k _ _ _ _ _ _ _ hk
      · exact right3 (b3 := 0) (b4 := D) v1 z1 v2 x2 hD
      · unfold dice_Dice_packet.f
        rw [if_neg c28, if_neg c33, if_pos c36, k1, Option.bind_some, k2, Option.bind_some, k3, Option.bind_some, if_pos hz, k4, Option.bind_some, k5, Option.bind_some, Option.bind_some]
    · obtain ⟨p4, u4, k4, v4, x4⟩ := below_ok u3 20 (by omega) (by omega)
      have y4 := (below_alike u3 20).trans k4
      obtain ⟨D, u5, ⟨lg, k5, k6⟩, hD, hj⟩ := j0_ok u4
      refine ⟨(3, 0, 0, p1, p2, 0, IntKind.u64.wrap (wrap64 (1 + p4)), D, u5), ?_, fun k hk => ?_, ?_⟩
      rotate_left
      · rw [if_neg (by omega), if_neg (by omega), if_pos (by omega), y1, Option.bind_some, y2, Option.bind_some, y3, Option.bind_some, if_neg hz, y4, Option.bind_some]
        exact hj k _ _ _ _ _ _ _ hk
      · exact right3 (b3 := IntKind.u64.wrap (wrap64 (1 + p4))) (b4 := D) v1 z1 v2 x2 hD
      · unfold dice_Dice_packet.f
        rw [if_neg c28, if_neg c33, if_pos c36, k1, Option.bind_some, k2, Option.bind_some, k3, Option.bind_some, if_neg hz, some_of k4, Option.bind_some, k5, Option.bind_some, k6, Option.bind_some, Option.bind_some]
  by_cases c37 : n < 37
  · refine ⟨_, by rw [if_neg c28, if_neg c33, if_neg c36, if_pos c37, f6, Option.bind_some, f7, Option.bind_some], fun k hk => ?_, ?_⟩
    rotate_left
    · exact right5 l7 z7
    rw [if_neg (by omega), if_neg (by omega), if_neg (by omega), if_pos (by omega), w5, (below_alike s1 _).trans f7, Option.bind_some]
  by_cases c38 : n < 38
  · refine ⟨_, by rw [if_neg c28, if_neg c33, if_neg c36, if_neg c37, if_pos c38, f2, Option.bind_some, some_of f4, Option.bind_some], fun k hk => ?_, ?_⟩
    rotate_left
    · show muleteerref15_Right.f 20 6 q2 (wrap64 (1 + q4)) 0 0 0 0 ⟨#[]⟩ = some true
      rw [w4]
      exact right6 l2 m2 z4.1 z4.2
    · rw [if_neg (by omega), if_neg (by omega), if_neg (by omega), if_neg (by omega), if_pos (by omega), (below_alike s1 2).trans f2, Option.bind_some, (below_alike t2 a1).trans f4, Option.bind_some]
  by_cases c39 : n < 39
  · refine ⟨_, by rw [if_neg c28, if_neg c33, if_neg c36, if_neg c37, if_neg c38, if_pos c39, f2, Option.bind_some], fun k hk => ?_, ?_⟩
    rotate_left
    · exact right4 l2 m2
    rw [if_neg (by omega), if_neg (by omega), if_neg (by omega), if_neg (by omega), if_neg (by omega), if_pos (by omega), (below_alike s1 2).trans f2, Option.bind_some]
  by_cases c0 : q3 = 0
  · refine ⟨_, by rw [if_neg c28, if_neg c33, if_neg c36, if_neg c37, if_neg c38, if_neg c39, f3, Option.bind_some, if_pos c0], fun k hk => ?_, ?_⟩
    rotate_left
    · exact right7
    rw [if_neg (by omega), if_neg (by omega), if_neg (by omega), if_neg (by omega), if_neg (by omega), if_neg (by omega), (below_alike s1 4).trans f3, Option.bind_some, if_pos c0]
  · refine ⟨_, by rw [if_neg c28, if_neg c33, if_neg c36, if_neg c37, if_neg c38, if_neg c39, f3, Option.bind_some, if_neg c0], fun k hk => ?_, ?_⟩
    rotate_left
    · exact right8
    rw [if_neg (by omega), if_neg (by omega), if_neg (by omega), if_neg (by omega), if_neg (by omega), if_neg (by omega), (below_alike s1 4).trans f3, Option.bind_some, if_neg c0]
def mkStep (r : Int × Int × Int × Int × Int × Int × Int × ByteArray × Int) : S44 := ⟨r.1, r.2.1, r.2.2.1, ⟨r.2.2.2.1, r.2.2.2.2.1, r.2.2.2.2.2.1, r.2.2.2.2.2.2.1, r.2.2.2.2.2.2.2.1⟩⟩
theorem script_l0_both (N : Nat) (hN : N ≤ 1000) {O : List Bool} {a1 a2 a3 a4 a5 a6 a7 a8 a9 a10 a11 : Int} (h : MayBe O a1 a2 a3 a4 a5 a6 a7 a8 a9 a10 a11) : ∀ j i k s (L : List S44), i + j = N → L.length = i + 1 → (∀ x ∈ L, Rights x) → j + 7 < k → ∃ L' s', dice_Dice_Script.l0 k L (N : Int) (i : Int) s O a1 a2 a3 a4 a5 a6 a7 a8 a9 a10 a11 = some (L', s') ∧ muleteerref40_Dice_Script.l0 k ((N : Int) + 1) L ((i : Int) + 1) s O a1 a2 a3 a4 a5 a6 a7 a8 a9 a10 a11 = some (L', s') ∧ L'.length = N + 1 ∧ (∀ x ∈ L', Rights x) := by
  intro j
  induction j with
  | zero =>
    intro i k s L hi hL hr hk
    obtain ⟨k, rfl⟩ : ∃ q, k = q + 1 := ⟨k - 1, by omega⟩
    exact ⟨L, s, by rw [dice_Dice_Script.l0, if_neg (by omega)], by rw [muleteerref40_Dice_Script.l0, if_neg (by omega)], by omega, hr⟩
  | succ j ih =>
    intro i k s L hi hL hr hk
    obtain ⟨k, rfl⟩ : ∃ q, k = q + 1 := ⟨k - 1, by omega⟩
    obtain ⟨r, e, e', hR⟩ := step_both s h
    have w1 : wrap64 ((i : Int) + 1) = ((i + 1 : Nat) : Int) := by unfold wrap64; omega
    have w2 : wrap64 ((i : Int) + 1 + 1) = ((i + 1 : Nat) : Int) + 1 := by unfold wrap64; omega
    rw [dice_Dice_Script.l0, if_pos (by omega), e, Option.bind_some, if_pos (by omega), w1]
    rw [muleteerref40_Dice_Script.l0, if_pos (by omega), e' k (by omega), Option.bind_some, if_pos (by omega), w2]
    refine ih (i + 1) k _ (L ++ [mkStep r]) (by omega) (by simp [hL]) (fun x hx => ?_) (by omega)
    rcases List.mem_append.1 hx with hx | hx
    · exact hr x hx
    · rw [List.mem_singleton.1 hx]
      exact hR
theorem script_both (s : Int) (m : Nat) (hm : m ≤ 1000) {O : List Bool} {a1 a2 a3 a4 a5 a6 a7 a8 a9 a10 a11 : Int} (h : MayBe O a1 a2 a3 a4 a5 a6 a7 a8 a9 a10 a11) : ∃ L s2, dice_Dice_Script.f 1100 s O a1 a2 a3 a4 a5 a6 a7 a8 a9 a10 a11 (1 + (m : Int)) = some (L, s2) ∧ muleteerref40_Dice_Script.f 1100 s O a1 a2 a3 a4 a5 a6 a7 a8 a9 a10 a11 (1 + (m : Int)) = some (L, s2) ∧ L.length = m + 1 ∧ (∀ x ∈ L, Rights x) := by
  obtain ⟨L, s2, h1, h2, h3, h4⟩ := script_l0_both m hm h m 0 1099 s [⟨8, 0, 0, ⟨0, 0, 0, 0, ⟨#[]⟩⟩⟩] (by omega) rfl (fun x hx => by rw [List.mem_singleton.1 hx]; exact right8) (by omega)
  have e : wrap64 (1 + (m : Int) - 1) = (m : Int) := by unfold wrap64; omega
  refine ⟨L, s2, ?_, ?_, by omega, h4⟩
  · unfold dice_Dice_Script.f
    rw [check_ok h, Option.bind_some, if_pos rfl, if_neg (by omega), decide_eq_false (by omega), dice_Dice_Script.j0, if_neg (by decide), e]
    exact h1
  · unfold muleteerref40_Dice_Script.f
    rw [wrong_ok h, Option.bind_some, if_pos empty_list, if_neg (by omega), decide_eq_false (by omega), muleteerref40_Dice_Script.j0, if_neg (by decide), Int.add_comm 1 (m : Int)]
    exact h2
theorem script_none (s n : Int) {O : List Bool} {a1 a2 a3 a4 a5 a6 a7 a8 a9 a10 a11 : Int} (h : n < 1 ∨ n > 1024 ∨ ¬ MayBe O a1 a2 a3 a4 a5 a6 a7 a8 a9 a10 a11) : dice_Dice_Script.f 1100 s O a1 a2 a3 a4 a5 a6 a7 a8 a9 a10 a11 n = some ([], s) ∧ muleteerref40_Dice_Script.f 1100 s O a1 a2 a3 a4 a5 a6 a7 a8 a9 a10 a11 n = some ([], s) := by
  have hd : dice_Dice_Script.j0 1100 n true s O a1 a2 a3 a4 a5 a6 a7 a8 a9 a10 a11 = some ([], s) := by rw [dice_Dice_Script.j0, if_pos rfl]
  have hq : muleteerref40_Dice_Script.j0 1100 n true s O a1 a2 a3 a4 a5 a6 a7 a8 a9 a10 a11 = some ([], s) := by rw [muleteerref40_Dice_Script.j0, if_pos rfl]
  unfold dice_Dice_Script.f muleteerref40_Dice_Script.f
  rcases may_or O a1 a2 a3 a4 a5 a6 a7 a8 a9 a10 a11 with hm | ⟨t, u, e1, e2, e3⟩
  · rw [check_ok hm, Option.bind_some, if_pos rfl, wrong_ok hm, Option.bind_some, if_pos empty_list]
    by_cases c : n < 1
    · rw [if_pos c, if_pos c]
      exact ⟨hd, hq⟩
    · have c2 : n > 1024 := by
        rcases h with h | h | h
        · exact absurd h c
        · exact h
        · exact absurd hm h
      rw [if_neg c, if_neg c, decide_eq_true c2]
      exact ⟨hd, hq⟩
  · rw [e3, Option.bind_some, if_neg (show ¬ (1 : Int) = 0 by decide), e1, Option.bind_some, if_neg e2]
    exact ⟨hd, hq⟩
theorem step_none (s : Int) {O : List Bool} {a1 a2 a3 a4 a5 a6 a7 a8 a9 a10 a11 : Int} {u : ByteArray} (h : conf_Check.f O a1 a2 a3 a4 a5 a6 a7 a8 a9 a10 a11 = some (u, 1)) : dice_Dice_Step.f s O a1 a2 a3 a4 a5 a6 a7 a8 a9 a10 a11 = some (0, 0, 0, 0, 0, 0, 0, ⟨#[]⟩, s) := by
  unfold dice_Dice_Step.f
  rw [h, Option.bind_some, if_neg (show ¬ (1 : Int) = 0 by decide)]
structure Dd (w W : World) (P ga gb : Nat) (s t : Int) : Prop where
  a : IsS49 w W ga s
  b : IsS32 w W gb t
  ne : ga ≠ gb
  la : ga < P
  lb : gb < P
  f : Below w.heap.size w W
  hP : w.heap.size ≤ P
  sz : P ≤ W.heap.size
theorem Dd.size {w W : World} {P ga gb : Nat} {s t : Int} (T : Dd w W P ga gb s t) : P ≤ W.heap.size := T.sz
theorem Dd.keepA {w W W' : World} {P ga gb : Nat} {s t s' : Int} (T : Dd w W P ga gb s t) (ha : IsS49 w W' ga s') (hb : Below w.heap.size w W') (hk : KeepBut W W' ga none) : Dd w W' P ga gb s' t :=
  ⟨ha, ⟨(hk.2 gb (blk_lt T.b.1) (Ne.symm T.ne) (by simp)).trans T.b.1, T.b.2⟩, T.ne, T.la, T.lb, hb, T.hP, Nat.le_trans T.sz hk.1⟩
theorem Dd.keepB {w W W' : World} {P ga gb : Nat} {s t t' : Int} (T : Dd w W P ga gb s t) (hb : IsS32 w W' gb t') (hf : Below w.heap.size w W') (hk : KeepBut W W' gb none) : Dd w W' P ga gb s t' :=
  ⟨⟨(hk.2 ga (blk_lt T.a.1) T.ne (by simp)).trans T.a.1, T.a.2⟩, hb, T.ne, T.la, T.lb, hf, T.hP, Nat.le_trans T.sz hk.1⟩
theorem Dd.below {w W W' : World} {P ga gb : Nat} {s t : Int} (T : Dd w W P ga gb s t) (h : Below W.heap.size W W') : Dd w W' P ga gb s t :=
  ⟨T.a.below h, T.b.below h, T.ne, T.la, T.lb, below_step T.f h, T.hP, Nat.le_trans T.sz h.size⟩
def Mine {α : Type} (d : Kd α) (e : Nat) (W : World) (P : Nat) (A : Option Addr) (c : Nat) (O : List α) : Prop := d.R e W P (fun k => P ≤ k) (.slice A O.length c) O
section
variable {α : Type} {d : Kd α} {e : Nat}
theorem Mine.keep {W W' : World} {P g : Nat} {A : Option Addr} {c : Nat} {O : List α} (h : Mine d e W P A c O) (hk : KeepBut W W' g none) (hg : g < P) : Mine d e W' P A c O := Kd.R_keep h hk (fun k hk => by omega)
theorem Mine.below {W W' : World} {P : Nat} {A : Option Addr} {c : Nat} {O : List α} (h : Mine d e W P A c O) (hk : Below W.heap.size W W') : Mine d e W' P A c O := Kd.R_below h hk
theorem Mine.reads {W : World} {P : Nat} {A : Option Addr} {c : Nat} {O : List α} (h : Mine d e W P A c O) : O.length ≤ c ∧ d.C W A O.length O := (Kd.R_reads' h).2
theorem mine_of {W : World} {P B : Nat} {A : Option Addr} {c : Nat} {O : List α} (h : d.R e W B (fun _ => True) (.slice A O.length c) O) (hB : P ≤ B) : Mine d e W P A c O := Kd.R_lower (Kd.R_mono (Kd.R_bound h) (fun k hk => Nat.le_trans hB hk.2.1)) hB
end
theorem Dd.drew {w W : World} {P ga gb : Nat} {s t : Int} (T : Dd w W P ga gb s t) : Dd w W.drew P ga gb s t := T.below (below_drew1 (Below.refl _ _))
theorem Mine.drew {α : Type} {d : Kd α} {e : Nat} {W : World} {P : Nat} {A : Option Addr} {c : Nat} {O : List α} (h : Mine d e W P A c O) : Mine d e W.drew P A c O := h.below (below_drew1 (Below.refl _ _))
theorem awake_tells : muleteerlaw40_awake.f = some true := by decide +kernel
theorem same07 {O : List Bool} (hO : O.length ≤ 4) (a1 a2 a3 a4 a5 a6 a7 a8 a9 a10 a11 : Int) : muleteerref07_Same.f 10 O a1 a2 a3 a4 a5 a6 a7 a8 a9 a10 a11 O a1 a2 a3 a4 a5 a6 a7 a8 a9 a10 a11 = some true := by
  have key : ∀ j i k, i + j = O.length → j < k → muleteerref07_Same.l0 k (i : Int) O a1 a2 a3 a4 a5 a6 a7 a8 a9 a10 a11 O a1 a2 a3 a4 a5 a6 a7 a8 a9 a10 a11 = some true := by
    intro j
    induction j with
    | zero =>
      intro i k hi hk
      obtain ⟨k, rfl⟩ : ∃ q, k = q + 1 := ⟨k - 1, by omega⟩
      rw [muleteerref07_Same.l0, if_neg (by omega)]
      simp
    | succ j ih =>
      intro i k hi hk
      obtain ⟨k, rfl⟩ : ∃ q, k = q + 1 := ⟨k - 1, by omega⟩
      have w1 : wrap64 ((i : Int) + 1) = ((i + 1 : Nat) : Int) := by unfold wrap64; omega
      rw [muleteerref07_Same.l0, if_pos (by omega), if_pos (by omega), if_pos (by omega), w1, ih (i + 1) k (by omega) (by omega)]
      cases rdOf false O (i : Int) <;> rfl
  unfold muleteerref07_Same.f
  rw [if_pos rfl]
  exact key O.length 0 10 (by omega) (by omega)
theorem same15 (L : List S44) (hL : L.length ≤ 1000) (k : Nat) (hk : 1010 ≤ k) : muleteerref15_Same.f k L L = some true := by
  have key : ∀ j i k, i + j = L.length → j < k → muleteerref15_Same.l0 k L L (i : Int) = some true := by
    intro j
    induction j with
    | zero =>
      intro i k hi hk
      obtain ⟨k, rfl⟩ : ∃ q, k = q + 1 := ⟨k - 1, by omega⟩
      rw [muleteerref15_Same.l0, if_neg (by omega)]
    | succ j ih =>
      intro i k hi hk
      obtain ⟨k, rfl⟩ : ∃ q, k = q + 1 := ⟨k - 1, by omega⟩
      have w1 : wrap64 ((i : Int) + 1) = ((i + 1 : Nat) : Int) := by unfold wrap64; omega
      rw [muleteerref15_Same.l0, if_pos (by omega), if_pos (by omega), if_pos (by omega), w1, ih (i + 1) k (by omega) (by omega)]
      simp
  unfold muleteerref15_Same.f
  rw [if_pos rfl]
  exact key L.length 0 k (by omega) (by omega)
theorem new_any (a0 : Int) (w : World) : Calls Try.prog 7 #[.int .u64 a0] w fun e w' => ∃ g, e = .returned (.pointer (some ⟨g, 0, none⟩)) ∧ IsS49 w w' g a0 ∧ Below w.heap.size w w' :=
  (dice_New.calls a0 a0 w w (Below.refl _ _) rfl).mono fun _ _ ⟨g, h1, h2, h3, _⟩ => ⟨g, h1, h2, h3⟩
theorem step_form {W : World} {P : Nat} {LA : Option Addr} {lc : Nat} {L : List S44} (M : Mine k44 44 W P LA lc L) (j : Nat) (hj : j < L.length) :
    ∃ g, LA = some ⟨g, 0, none⟩ ∧ ∀ k u, [Value.int .i64 L[j].f0, .int .i64 L[j].f1, .int .i64 L[j].f2, .int .i64 L[j].f3.f0, .int .i64 L[j].f3.f1, .int .u64 L[j].f3.f2, .int .u64 L[j].f3.f3, .string L[j].f3.f4][k]? = some u → W.cell? ⟨g, j * 8 + k, none⟩ = some u := by
  obtain ⟨g, cap, hv, _⟩ := Kd.R_form M (by omega)
  injection hv with h1 h2 h3
  subst h1
  obtain ⟨ad, c0, e, hcl, hK, hcc⟩ := Kd.C_get M.reads.2 z44 (j : Int) (by omega) (by omega)
  obtain rfl := Option.some.inj e
  have hc := k44_open hK
  have hg : L.getD (j : Int).toNat z44 = L[j] := by
    show L.getD j z44 = _
    rw [List.getD_eq_getElem?_getD, List.getElem?_eq_getElem hj, Option.getD_some]
  rw [hg] at hc
  subst hc
  refine ⟨g, rfl, fun k u hk => ?_⟩
  have h := hcc k u hk
  have es : k44.sz = 8 := rfl
  rw [es, Int.toNat_natCast] at h
  have e : (⟨g, 0, none⟩ : Addr).add (j * 8 + k) = ⟨g, j * 8 + k, none⟩ := by
    unfold Addr.add
    by_cases hz : j * 8 + k = 0
    · rw [if_pos hz, hz]
    · rw [if_neg hz, Nat.zero_add]
  rw [e] at h
  exact h
theorem script_any (s n : Int) (O : List Bool) (a1 a2 a3 a4 a5 a6 a7 a8 a9 a10 a11 : Int) (hn : n ≤ 200 ∨ n > 1024) : ∃ L s2, dice_Dice_Script.f 1100 s O a1 a2 a3 a4 a5 a6 a7 a8 a9 a10 a11 n = some (L, s2) ∧ muleteerref40_Dice_Script.f 1100 s O a1 a2 a3 a4 a5 a6 a7 a8 a9 a10 a11 n = some (L, s2) ∧ L.length ≤ 1000 ∧ (∀ x ∈ L, Rights x) ∧ (¬ MayBe O a1 a2 a3 a4 a5 a6 a7 a8 a9 a10 a11 → L = []) := by
  by_cases hm : MayBe O a1 a2 a3 a4 a5 a6 a7 a8 a9 a10 a11
  · by_cases h1 : n < 1 ∨ n > 1024
    · obtain ⟨e1, e2⟩ := script_none s n (O := O) (a1 := a1) (a2 := a2) (a3 := a3) (a4 := a4) (a5 := a5) (a6 := a6) (a7 := a7) (a8 := a8) (a9 := a9) (a10 := a10) (a11 := a11) (h1.elim .inl (fun h => .inr (.inl h)))
      exact ⟨[], s, e1, e2, by simp, by simp, fun _ => rfl⟩
    · obtain ⟨m, rfl⟩ : ∃ m : Nat, n = 1 + (m : Int) := ⟨(n - 1).toNat, by omega⟩
      obtain ⟨L, s2, e1, e2, h3, h4⟩ := script_both s m (by omega) hm
      exact ⟨L, s2, e1, e2, by omega, h4, fun h => absurd hm h⟩
  · obtain ⟨e1, e2⟩ := script_none s n (O := O) (a1 := a1) (a2 := a2) (a3 := a3) (a4 := a4) (a5 := a5) (a6 := a6) (a7 := a7) (a8 := a8) (a9 := a9) (a10 := a10) (a11 := a11) (.inr (.inr hm))
    exact ⟨[], s, e1, e2, by simp, by simp, fun _ => rfl⟩

theorem kbn {W W' : World} {g k : Nat} {o : Obj} (hk : KeepBut W W' g none) (h : W.heap[k]? = some o) (hg : k ≠ g) : W'.heap[k]? = some o := (hk.2 k (blk_lt h) hg (by simp)).trans h
theorem kbnd {W W' : World} {g k : Nat} {o : Obj} (hk : KeepBut W.drew W' g none) (h : W.heap[k]? = some o) (hg : k ≠ g) : W'.heap[k]? = some o := (hk.2 k (blk_lt h) hg (by simp)).trans h
theorem config_q {w W : World} {P ga gb : Nat} {s t t2 : Int} {X : List Bool} {x1 x2 x3 x4 x5 x6 x7 x8 x9 x10 x11 : Int} (D : Dd w W P ga gb s t) (h : dice_Dice_Config.f 10 t = some (X, x1, x2, x3, x4, x5, x6, x7, x8, x9, x10, x11, t2)) :
    Calls Try.prog 10 #[.pointer (some ⟨gb, 0, none⟩)] W fun e w' => ∃ B cx, e = .returned (.agg #[.slice B X.length cx, .int .i64 x1, .int .i64 x2, .int .i64 x3, .int .i64 x4, .int .i64 x5, .int .i64 x6, .int .i64 x7, .int .i64 x8, .int .i64 x9, .int .i64 x10, .int .u64 x11]) ∧ Mine Kd.bool 4 w' P B cx X ∧ Dd w w' P ga gb s t2 ∧ KeepBut W w' gb none := by
  refine (muleteerref40_Dice_Config.calls 10 gb t X x1 x2 x3 x4 x5 x6 x7 x8 x9 x10 x11 t2 w W D.b D.f ((config_alike t).trans h)).mono ?_
  rintro e w' ⟨v, rfl, hR, hI, hB, hk⟩
  obtain ⟨B, cx, rfl⟩ := Kd.R_slice hR
  exact ⟨B, cx, rfl, mine_of hR D.size, D.keepB hI hB hk, hk⟩
theorem far_ {w W : World} {P ga gb : Nat} {s t : Int} {A : Option Addr} {O : List Bool} (D : Dd w W P ga gb s t) (hr : Kd.C Kd.bool w A O.length O) : (∀ ad, A = some ad → 0 < O.length → ad.block ≠ ga) ∧ (∀ ad, A = some ad → 0 < O.length → ad.block ≠ gb) := by
  constructor
  · intro ad ha hp
    subst ha
    have := Kd.C_lt hr hp (by decide)
    have := D.a.2
    omega
  · intro ad ha hp
    subst ha
    have := Kd.C_lt hr hp (by decide)
    have := D.b.2
    omega
theorem script_d {w W : World} {P ga gb : Nat} {s t : Int} {A : Option Addr} {c : Nat} {O : List Bool} {a1 a2 a3 a4 a5 a6 a7 a8 a9 a10 a11 m s2 : Int} {k : Nat} {L : List S44} (D : Dd w W P ga gb s t) (hr : Kd.C Kd.bool w A O.length O) (hc : O.length ≤ c) (h : dice_Dice_Script.f k s O a1 a2 a3 a4 a5 a6 a7 a8 a9 a10 a11 m = some (L, s2)) :
    Calls Try.prog 12 #[.pointer (some ⟨ga, 0, none⟩), .agg #[.slice A O.length c, .int .i64 a1, .int .i64 a2, .int .i64 a3, .int .i64 a4, .int .i64 a5, .int .i64 a6, .int .i64 a7, .int .i64 a8, .int .i64 a9, .int .i64 a10, .int .u64 a11], .int .i64 m] W fun e w' => ∃ LA lc, e = .returned (.slice LA L.length lc) ∧ Mine k44 44 w' P LA lc L ∧ Dd w w' P ga gb s2 t ∧ KeepBut W w' ga none := by
  refine (dice_Dice_Script.calls k ga s A c O a1 a2 a3 a4 a5 a6 a7 a8 a9 a10 a11 m L s2 w W D.a D.f (Kd.C_below hr D.f) hc (far_ D hr).1 h).mono ?_
  rintro e w' ⟨v, rfl, hR, hI, hB, hk⟩
  obtain ⟨LA, lc, rfl⟩ := Kd.R_slice hR
  exact ⟨LA, lc, rfl, mine_of hR D.size, D.keepA hI hB hk, hk⟩
theorem script_q {w W : World} {P ga gb : Nat} {s t : Int} {A : Option Addr} {c : Nat} {O : List Bool} {a1 a2 a3 a4 a5 a6 a7 a8 a9 a10 a11 m t2 : Int} {k : Nat} {L : List S44} (D : Dd w W P ga gb s t) (hr : Kd.C Kd.bool w A O.length O) (hc : O.length ≤ c) (h : muleteerref40_Dice_Script.f k t O a1 a2 a3 a4 a5 a6 a7 a8 a9 a10 a11 m = some (L, t2)) :
    Calls Try.prog 13 #[.pointer (some ⟨gb, 0, none⟩), .agg #[.slice A O.length c, .int .i64 a1, .int .i64 a2, .int .i64 a3, .int .i64 a4, .int .i64 a5, .int .i64 a6, .int .i64 a7, .int .i64 a8, .int .i64 a9, .int .i64 a10, .int .u64 a11], .int .i64 m] W fun e w' => ∃ LA lc, e = .returned (.slice LA L.length lc) ∧ Mine k44 44 w' P LA lc L ∧ Dd w w' P ga gb s t2 ∧ KeepBut W w' gb none := by
  refine (muleteerref40_Dice_Script.calls k gb t A c O a1 a2 a3 a4 a5 a6 a7 a8 a9 a10 a11 m L t2 w W D.b D.f (Kd.C_below hr D.f) hc (far_ D hr).2 h).mono ?_
  rintro e w' ⟨v, rfl, hR, hI, hB, hk⟩
  obtain ⟨LA, lc, rfl⟩ := Kd.R_slice hR
  exact ⟨LA, lc, rfl, mine_of hR D.size, D.keepB hI hB hk, hk⟩
theorem throw_d {w W : World} {P ga gb : Nat} {s t r s2 : Int} (D : Dd w W P ga gb s t) (h : dice_Dice_Throw.f s = some (r, s2)) :
    Calls Try.prog 15 #[.pointer (some ⟨ga, 0, none⟩)] W fun e w' => e = .returned (.int .u64 r) ∧ Dd w w' P ga gb s2 t ∧ KeepBut W w' ga none :=
  (dice_Dice_Throw.calls ga s r s2 w W D.a D.f h).mono fun _ _ hq => ⟨hq.1, D.keepA hq.2.1 hq.2.2.1 hq.2.2.2, hq.2.2.2⟩
theorem throw_q {w W : World} {P ga gb : Nat} {s t r t2 : Int} (D : Dd w W P ga gb s t) (h : dice_Dice_Throw.f t = some (r, t2)) :
    Calls Try.prog 16 #[.pointer (some ⟨gb, 0, none⟩)] W fun e w' => e = .returned (.int .u64 r) ∧ Dd w w' P ga gb s t2 ∧ KeepBut W w' gb none :=
  (muleteerref40_Dice_Throw.calls gb t r t2 w W D.b D.f ((throw_alike t).trans h)).mono fun _ _ hq => ⟨hq.1, D.keepB hq.2.1 hq.2.2.1 hq.2.2.2, hq.2.2.2⟩
theorem step_d {w W : World} {P ga gb : Nat} {s t : Int} {A : Option Addr} {c : Nat} {O : List Bool} {a1 a2 a3 a4 a5 a6 a7 a8 a9 a10 a11 r1 r2 r3 r4 r5 r6 r7 r9 : Int} {r8 : ByteArray} (D : Dd w W P ga gb s t) (hr : Kd.C Kd.bool w A O.length O) (hc : O.length ≤ c) (h : dice_Dice_Step.f s O a1 a2 a3 a4 a5 a6 a7 a8 a9 a10 a11 = some (r1, r2, r3, r4, r5, r6, r7, r8, r9)) :
    Calls Try.prog 18 #[.pointer (some ⟨ga, 0, none⟩), .agg #[.slice A O.length c, .int .i64 a1, .int .i64 a2, .int .i64 a3, .int .i64 a4, .int .i64 a5, .int .i64 a6, .int .i64 a7, .int .i64 a8, .int .i64 a9, .int .i64 a10, .int .u64 a11]] W fun e w' => e = .returned (.agg #[.int .i64 r1, .int .i64 r2, .int .i64 r3, .int .i64 r4, .int .i64 r5, .int .u64 r6, .int .u64 r7, .string r8]) ∧ Dd w w' P ga gb r9 t ∧ KeepBut W w' ga none :=
  (dice_Dice_Step.calls ga s A c O a1 a2 a3 a4 a5 a6 a7 a8 a9 a10 a11 r1 r2 r3 r4 r5 r6 r7 r8 r9 w W D.a D.f (Kd.C_below hr D.f) hc (far_ D hr).1 h).mono fun _ _ hq => ⟨hq.1, D.keepA hq.2.1 hq.2.2.1 hq.2.2.2, hq.2.2.2⟩
theorem step_q {w W : World} {P ga gb : Nat} {s t : Int} {A : Option Addr} {c : Nat} {O : List Bool} {a1 a2 a3 a4 a5 a6 a7 a8 a9 a10 a11 r1 r2 r3 r4 r5 r6 r7 r9 : Int} {r8 : ByteArray} (D : Dd w W P ga gb s t) (hr : Kd.C Kd.bool w A O.length O) (hc : O.length ≤ c) (h : muleteerref40_Dice_Step.f 10 t O a1 a2 a3 a4 a5 a6 a7 a8 a9 a10 a11 = some (r1, r2, r3, r4, r5, r6, r7, r8, r9)) :
    Calls Try.prog 19 #[.pointer (some ⟨gb, 0, none⟩), .agg #[.slice A O.length c, .int .i64 a1, .int .i64 a2, .int .i64 a3, .int .i64 a4, .int .i64 a5, .int .i64 a6, .int .i64 a7, .int .i64 a8, .int .i64 a9, .int .i64 a10, .int .u64 a11]] W fun e w' => e = .returned (.agg #[.int .i64 r1, .int .i64 r2, .int .i64 r3, .int .i64 r4, .int .i64 r5, .int .u64 r6, .int .u64 r7, .string r8]) ∧ Dd w w' P ga gb s r9 ∧ KeepBut W w' gb none :=
  (muleteerref40_Dice_Step.calls 10 gb t A c O a1 a2 a3 a4 a5 a6 a7 a8 a9 a10 a11 r1 r2 r3 r4 r5 r6 r7 r8 r9 w W D.b D.f (Kd.C_below hr D.f) hc (far_ D hr).2 h).mono fun _ _ hq => ⟨hq.1, D.keepB hq.2.1 hq.2.2.1 hq.2.2.2, hq.2.2.2⟩
def cfgO (A : Option Addr) (n c : Nat) (a1 a2 a3 a4 a5 a6 a7 a8 a9 a10 a11 : Int) : Obj := .cells #[.slice A n c, .int .i64 a1, .int .i64 a2, .int .i64 a3, .int .i64 a4, .int .i64 a5, .int .i64 a6, .int .i64 a7, .int .i64 a8, .int .i64 a9, .int .i64 a10, .int .u64 a11] 25
theorem cells12 {w : World} {g : Nat} {v0 v1 v2 v3 v4 v5 v6 v7 v8 v9 v10 v11 : Value} {T : Nat} (h : w.heap[g]? = some (.cells #[v0, v1, v2, v3, v4, v5, v6, v7, v8, v9, v10, v11] T (0, 0))) : w.cell? ⟨g, 0, none⟩ = some v0 ∧ w.cell? ⟨g, 1, none⟩ = some v1 ∧ w.cell? ⟨g, 2, none⟩ = some v2 ∧ w.cell? ⟨g, 3, none⟩ = some v3 ∧ w.cell? ⟨g, 4, none⟩ = some v4 ∧ w.cell? ⟨g, 5, none⟩ = some v5 ∧ w.cell? ⟨g, 6, none⟩ = some v6 ∧ w.cell? ⟨g, 7, none⟩ = some v7 ∧ w.cell? ⟨g, 8, none⟩ = some v8 ∧ w.cell? ⟨g, 9, none⟩ = some v9 ∧ w.cell? ⟨g, 10, none⟩ = some v10 ∧ w.cell? ⟨g, 11, none⟩ = some v11 := ⟨(blk_cell h 0).trans rfl, (blk_cell h 1).trans rfl, (blk_cell h 2).trans rfl, (blk_cell h 3).trans rfl, (blk_cell h 4).trans rfl, (blk_cell h 5).trans rfl, (blk_cell h 6).trans rfl, (blk_cell h 7).trans rfl, (blk_cell h 8).trans rfl, (blk_cell h 9).trans rfl, (blk_cell h 10).trans rfl, (blk_cell h 11).trans rfl⟩
theorem awake_any (w : World) : Calls Try.prog 6 #[] w fun e w' => e = .returned (.bool true) ∧ Below w.heap.size w w' := muleteerlaw40_awake.calls true w awake_tells
theorem few_yes (O : List Bool) (a1 a2 a3 a4 a5 a6 a7 a8 a9 a10 a11 : Int) (h : O.length ≤ 20) : muleteerlaw07_Few.f O a1 a2 a3 a4 a5 a6 a7 a8 a9 a10 a11 = some true := by
  show some (decide _) = _
  rw [decide_eq_true (by omega)]
theorem few_no (O : List Bool) (a1 a2 a3 a4 a5 a6 a7 a8 a9 a10 a11 : Int) (h : 20 < O.length) : muleteerlaw07_Few.f O a1 a2 a3 a4 a5 a6 a7 a8 a9 a10 a11 = some false := by
  show some (decide _) = _
  rw [decide_eq_false (by omega)]
set_option maxRecDepth 100000 in
theorem law_out (s : Int) (A : Option Addr) (c : Nat) (O : List Bool) (a1 a2 a3 a4 a5 a6 a7 a8 a9 a10 a11 n : Int) (w : World) (hr : Kd.C Kd.bool w A O.length O) (hc : O.length ≤ c) (h : 20 < O.length ∨ (200 < n ∧ n ≤ 1024)) :
    Calls Try.prog 3 #[.int .u64 s, .agg #[.slice A O.length c, .int .i64 a1, .int .i64 a2, .int .i64 a3, .int .i64 a4, .int .i64 a5, .int .i64 a6, .int .i64 a7, .int .i64 a8, .int .i64 a9, .int .i64 a10, .int .u64 a11], .int .i64 n] w fun e w' => e = .returned (.bool true) ∧ Below w.heap.size w w' := by
  have HR := Lib.hid hr
  clear hr
  by_cases h1 : 20 < O.length
  · go_enter Try.func3, Try.ntmps3
    go_wp2_with fail
    refine (muleteerlaw07_Few.calls A c O a1 a2 a3 a4 a5 a6 a7 a8 a9 a10 a11 false _ (Kd.C_alloc HR.out _) hc (few_no O a1 a2 a3 a4 a5 a6 a7 a8 a9 a10 a11 h1)).mono ?_
    rintro e w1 ⟨rfl, hb⟩
    have F1 := Lib.hid (below_step (below_alloc (Below.refl _ _) (cfgO A O.length c a1 a2 a3 a4 a5 a6 a7 a8 a9 a10 a11)) hb)
    clear hb
    go_wp2_with fail
    refine (awake_any _).mono ?_
    rintro e w2 ⟨rfl, hb⟩
    have F2 := Lib.hid (below_step F1.out hb)
    clear hb
    go_wp2
    go_ret
    exact ⟨rfl, F2.out⟩
  · have h2 : 200 < n ∧ n ≤ 1024 := by omega
    go_enter Try.func3, Try.ntmps3
    go_wp2_with fail
    refine (muleteerlaw07_Few.calls A c O a1 a2 a3 a4 a5 a6 a7 a8 a9 a10 a11 true _ (Kd.C_alloc HR.out _) hc (few_yes O a1 a2 a3 a4 a5 a6 a7 a8 a9 a10 a11 (by omega))).mono ?_
    rintro e w1 ⟨rfl, hb⟩
    have F1 := Lib.hid (below_step (below_alloc (Below.refl _ _) (cfgO A O.length c a1 a2 a3 a4 a5 a6 a7 a8 a9 a10 a11)) hb)
    clear hb
    have d1 : (200 : Int) < n := h2.1
    have d2 : n ≤ (1024 : Int) := h2.2
    go_wp2_with fail
    refine (awake_any _).mono ?_
    rintro e w2 ⟨rfl, hb⟩
    have F2 := Lib.hid (below_step F1.out hb)
    clear hb
    go_wp2
    go_ret
    exact ⟨rfl, F2.out⟩
set_option maxHeartbeats 4000000 in
set_option maxRecDepth 100000 in
theorem law_in (s : Int) (A : Option Addr) (c : Nat) (O : List Bool) (a1 a2 a3 a4 a5 a6 a7 a8 a9 a10 a11 n : Int) (w : World) (hr : Kd.C Kd.bool w A O.length O) (hc : O.length ≤ c) (h1 : O.length ≤ 20) (hn : n ≤ 200 ∨ n > 1024) (hq : ((200 < n) = True ∧ (n ≤ 1024) = False) ∨ (200 < n) = False) :
    Calls Try.prog 3 #[.int .u64 s, .agg #[.slice A O.length c, .int .i64 a1, .int .i64 a2, .int .i64 a3, .int .i64 a4, .int .i64 a5, .int .i64 a6, .int .i64 a7, .int .i64 a8, .int .i64 a9, .int .i64 a10, .int .u64 a11], .int .i64 n] w fun e w' => e = .returned (.bool true) ∧ Below w.heap.size w w' := by
  have HR := Lib.hid hr
  clear hr
  obtain ⟨X, x1, x2, x3, x4, x5, x6, x7, x8, x9, x10, x11, s1, hcf, hmb⟩ := config_ok s
  have HC := Lib.hid hcf
  have HM := Lib.hid hmb
  clear hcf hmb
  obtain ⟨bc, hbc⟩ : ∃ b, w.heap.size = b := ⟨_, rfl⟩
  rcases hq with ⟨hd, hd2⟩ | hd
  all_goals
    go_enter Try.func3, Try.ntmps3
    go_wp2_with fail
    refine (muleteerlaw07_Few.calls A c O a1 a2 a3 a4 a5 a6 a7 a8 a9 a10 a11 true _ (Kd.C_alloc HR.out _) hc (few_yes O a1 a2 a3 a4 a5 a6 a7 a8 a9 a10 a11 h1)).mono ?_
    rintro e w1 ⟨rfl, hb⟩
    have F1 := Lib.hid (below_step (below_alloc (Below.refl _ _) (cfgO A O.length c a1 a2 a3 a4 a5 a6 a7 a8 a9 a10 a11)) hb)
    have B1 := Lib.hid (blk_below (blk_new w (cfgO A O.length c a1 a2 a3 a4 a5 a6 a7 a8 a9 a10 a11)) hb)
    unfold cfgO at B1
    clear hb
    rw [hbc] at B1
    go_wp2_with fail
    refine (new_any s _).mono ?_
    rintro e w2 ⟨ga, rfl, hI2, hb⟩
    have F2 := Lib.hid (below_step F1.out hb)
    have B2 := Lib.hid (blk_below B1.out hb)
    have hga : bc < ga := Nat.lt_of_lt_of_le (blk_lt B1.out) hI2.2
    have I2 := Lib.hid hI2
    clear hb hI2 F1 B1
    go_wp2_with fail
    have D3 : Hid (Dd w (w2.alloc (.cells #[.int .u64 s] 32)) (w2.alloc (.cells #[.int .u64 s] 32)).heap.size ga w2.heap.size s s) := Lib.hid ⟨⟨(blk_alloc I2.out.1 _), by omega⟩, ⟨blk_new w2 _, F2.out.size⟩, Nat.ne_of_lt (blk_lt I2.out.1), by rw [World.size_alloc]; exact Nat.lt_succ_of_lt (blk_lt I2.out.1), by rw [World.size_alloc]; exact Nat.lt_succ_self _, below_alloc F2.out _, by rw [World.size_alloc]; exact Nat.le_succ_of_le F2.out.size, Nat.le_refl _⟩
    have B3 := Lib.hid (blk_alloc B2.out (.cells #[.int .u64 s] 32))
    have hgb : bc < w2.heap.size := blk_lt B2.out
    clear F2 B2 I2
    generalize w2.heap.size = gb at D3 hgb ⊢
    generalize w2.alloc _ = w3 at D3 B3 ⊢
    refine (dice_Dice_Config.calls 10 ga s X x1 x2 x3 x4 x5 x6 x7 x8 x9 x10 x11 s1 w w3 D3.out.a D3.out.f HC.out).mono ?_
    rintro e w4 ⟨vx, rfl, hR4, hI4, hB4, hk4⟩
    obtain ⟨B, cx, rfl⟩ := Kd.R_slice hR4
    have M4 := Lib.hid (mine_of hR4 (Nat.le_refl w3.heap.size))
    have D4 := Lib.hid (D3.out.keepA hI4 hB4 hk4)
    have B4 := Lib.hid ((hk4.2 bc (blk_lt B3.out) (by omega) (by simp)).trans B3.out)
    have z4 : w3.heap.size ≤ w4.heap.size := hk4.1
    clear hR4 hI4 hB4 hk4 D3 B3
    have D5 := Lib.hid (D4.out.below (below_alloc (Below.refl _ _) (cfgO B X.length cx x1 x2 x3 x4 x5 x6 x7 x8 x9 x10 x11)))
    have M5 := Lib.hid (M4.out.below (below_alloc (Below.refl _ _) (cfgO B X.length cx x1 x2 x3 x4 x5 x6 x7 x8 x9 x10 x11)))
    have B5 := Lib.hid (blk_alloc B4.out (cfgO B X.length cx x1 x2 x3 x4 x5 x6 x7 x8 x9 x10 x11))
    have X5 := Lib.hid (blk_new w4 (cfgO B X.length cx x1 x2 x3 x4 x5 x6 x7 x8 x9 x10 x11))
    unfold cfgO at D5 M5 B5 X5
    have hxa : ga < w4.heap.size := blk_lt D4.out.a.1
    have hxb : gb < w4.heap.size := blk_lt D4.out.b.1
    clear D4 M4 B4
    go_wp2_with fail
    generalize w4.heap.size = bx at X5 hxa hxb ⊢
    generalize w4.alloc _ = w5 at D5 M5 B5 X5 ⊢
    have hw := wrong_ok HM.out
    have hs07 := same07 HM.out.1.2 x1 x2 x3 x4 x5 x6 x7 x8 x9 x10 x11
    have HW := Lib.hid hw
    have HS7 := Lib.hid hs07
    clear hw hs07
    have c5 := cells12 X5.out
    have c5' := cells12 (w := w5.drew) X5.out
    go_region_held3 (fun w' => w'.cell? ⟨bx, 0, none⟩ = some (.slice B X.length cx) ∧ w'.cell? ⟨bx, 1, none⟩ = some (.int .i64 x1) ∧ w'.cell? ⟨bx, 2, none⟩ = some (.int .i64 x2) ∧ w'.cell? ⟨bx, 3, none⟩ = some (.int .i64 x3) ∧ w'.cell? ⟨bx, 4, none⟩ = some (.int .i64 x4) ∧ w'.cell? ⟨bx, 5, none⟩ = some (.int .i64 x5) ∧ w'.cell? ⟨bx, 6, none⟩ = some (.int .i64 x6) ∧ w'.cell? ⟨bx, 7, none⟩ = some (.int .i64 x7) ∧ w'.cell? ⟨bx, 8, none⟩ = some (.int .i64 x8) ∧ w'.cell? ⟨bx, 9, none⟩ = some (.int .i64 x9) ∧ w'.cell? ⟨bx, 10, none⟩ = some (.int .i64 x10) ∧ w'.cell? ⟨bx, 11, none⟩ = some (.int .u64 x11)) (first | exact c5 | exact c5' | exact c6 | exact c7 | exact c8) (first
      | (go_at_call 10; (with_reducible refine (config_q D5.out.drew HC.out).mono ?_); rintro e w6 ⟨C, cc, rfl, hR6, hD6, hk6⟩; have c6 := cells12 (kbnd hk6 X5.out (by omega)); have D6 := Lib.hid hD6; have N6 := Lib.hid hR6; have X6 := Lib.hid (kbnd hk6 X5.out (by omega)); have B6 := Lib.hid (kbnd hk6 B5.out (by omega)); have M6 := Lib.hid (M5.out.drew.keep hk6 D5.out.lb); clear hR6 hD6 hk6)
      | (go_at_call 9; (with_reducible refine (muleteerref07_Same.calls 10 B cx X x1 x2 x3 x4 x5 x6 x7 x8 x9 x10 x11 C cc X x1 x2 x3 x4 x5 x6 x7 x8 x9 x10 x11 true _ M6.out.reads.2 M6.out.reads.1 N6.out.reads.2 N6.out.reads.1 HS7.out).mono ?_); rintro e w7 ⟨rfl, hb7⟩; have c7 := cells12 (blk_below X6.out hb7); have D7 := Lib.hid (D6.out.below hb7); have X7 := Lib.hid (blk_below X6.out hb7); have B7 := Lib.hid (blk_below B6.out hb7); have M7 := Lib.hid (M6.out.below hb7); clear hb7)
      | (go_at_call 11; (with_reducible refine (muleteerref07_Wrong.calls B cx X x1 x2 x3 x4 x5 x6 x7 x8 x9 x10 x11 _ _ M7.out.reads.2 M7.out.reads.1 HW.out).mono ?_); rintro e w8 ⟨rfl, hb8⟩; have c8 := cells12 (blk_below X7.out hb8); have D8 := Lib.hid (D7.out.below hb8); have B8 := Lib.hid (blk_below B7.out hb8); clear hb8)
      | fail)
    clear c5 c5' c6 c7 c8 D5 M5 B5 X5 D6 N6 X6 B6 M6 D7 X7 B7 M7
    go_wp2_with fail
    obtain ⟨L, s2, hd9, hq9, hL9, hr9, he9⟩ := script_any s1 n O a1 a2 a3 a4 a5 a6 a7 a8 a9 a10 a11 hn
    have SD := Lib.hid hd9
    have SQ := Lib.hid hq9
    have LR := Lib.hid hr9
    have LE := Lib.hid he9
    have LL := Lib.hid hL9
    clear hd9 hq9 hr9 he9 hL9
    have c8 := cells12 B8.out
    have c8' := cells12 (w := w8.drew) B8.out
    go_region_held3 (fun w' => w'.cell? ⟨bc, 0, none⟩ = some (.slice A O.length c) ∧ w'.cell? ⟨bc, 1, none⟩ = some (.int .i64 a1) ∧ w'.cell? ⟨bc, 2, none⟩ = some (.int .i64 a2) ∧ w'.cell? ⟨bc, 3, none⟩ = some (.int .i64 a3) ∧ w'.cell? ⟨bc, 4, none⟩ = some (.int .i64 a4) ∧ w'.cell? ⟨bc, 5, none⟩ = some (.int .i64 a5) ∧ w'.cell? ⟨bc, 6, none⟩ = some (.int .i64 a6) ∧ w'.cell? ⟨bc, 7, none⟩ = some (.int .i64 a7) ∧ w'.cell? ⟨bc, 8, none⟩ = some (.int .i64 a8) ∧ w'.cell? ⟨bc, 9, none⟩ = some (.int .i64 a9) ∧ w'.cell? ⟨bc, 10, none⟩ = some (.int .i64 a10) ∧ w'.cell? ⟨bc, 11, none⟩ = some (.int .u64 a11)) (first | exact c8 | exact c8' | exact c9 | exact c10) (first
      | (go_at_call 12; (with_reducible refine (script_d D8.out.drew HR.out hc SD.out).mono ?_); rintro e w9 ⟨LA, lc, rfl, hR9, hD9, hk9⟩; have c9 := cells12 (kbnd hk9 B8.out (by omega)); have D9 := Lib.hid hD9; have Q9 := Lib.hid hR9; have B9 := Lib.hid (kbnd hk9 B8.out (by omega)); clear hR9 hD9 hk9)
      | (go_at_call 13; (with_reducible refine (script_q D9.out HR.out hc SQ.out).mono ?_); rintro e w10 ⟨LB, lb, rfl, hR9, hD9, hk9⟩; have c10 := cells12 (kbn hk9 B9.out (by omega)); have D10 := Lib.hid hD9; have R10 := Lib.hid hR9; have Q10 := Lib.hid (Q9.out.keep hk9 D9.out.lb); have B10 := Lib.hid (kbn hk9 B9.out (by omega)); clear hR9 hD9 hk9)
      | fail)
    clear c8 c8' c9 c10 D8 B8 D9 Q9 B9
    go_wp2_with fail
    refine (muleteerref15_Same.calls 1200 LA lc L LB lb L true _ Q10.out.reads.2 Q10.out.reads.1 R10.out.reads.2 R10.out.reads.1 (same15 L LL.out 1200 (by omega))).mono ?_
    rintro e w11 ⟨rfl, ⟨dr, rfl⟩⟩
    have D11 := Lib.hid (D10.out.below (pw_below_drewN (Below.refl _ _) dr))
    have Q11 := Lib.hid (Q10.out.below (pw_below_drewN (Below.refl _ _) dr))
    have B11 := Lib.hid (blk_below B10.out (pw_below_drewN (Below.refl _ _) dr))
    clear D10 Q10 B10 R10
    generalize w10.drewN dr = w11 at D11 Q11 B11 ⊢
    obtain ⟨⟨r12, s3⟩, hth⟩ := throw_some s2
    have HT := Lib.hid hth
    clear hth
    go_wp2_with fail
    refine (throw_d D11.out HT.out).mono ?_
    rintro e w12 ⟨rfl, hD, hk⟩
    have D12 := Lib.hid hD
    have Q12 := Lib.hid (Q11.out.keep hk D11.out.la)
    have B12 := Lib.hid (kbn hk B11.out (by omega))
    clear hD hk D11 Q11 B11
    go_wp2_with fail
    refine (throw_q D12.out HT.out).mono ?_
    rintro e w13 ⟨rfl, hD, hk⟩
    have D13 := Lib.hid hD
    have Q13 := Lib.hid (Q12.out.keep hk D12.out.lb)
    have B13 := Lib.hid (kbn hk B12.out (by omega))
    clear hD hk D12 Q12 B12
    have hne : (r12 != r12) = false := bne_self_eq_false r12
    go_wp2_with fail
    go_loopw [12] (fun v12 wr => ∃ j : Nat, j ≤ L.length ∧ v12 = .int .i64 j ∧ Hid (Dd w wr w3.heap.size ga gb s3 s3) ∧ Hid (Mine k44 44 wr w3.heap.size LA lc L) ∧ Hid (wr.heap[bc]? = some (.cells #[.slice A O.length c, .int .i64 a1, .int .i64 a2, .int .i64 a3, .int .i64 a4, .int .i64 a5, .int .i64 a6, .int .i64 a7, .int .i64 a8, .int .i64 a9, .int .i64 a10, .int .u64 a11] 25 (0, 0)))) (fun v12 _ => L.length - (intOf v12).toNat)
    case atStart => exact ⟨0, Nat.zero_le _, rfl, D13, Q13, B13⟩
    case round =>
      clear D13 Q13 B13
      obtain ⟨j, hj, rfl, DL, QL, BL⟩ := hrel
      have hl1 : L.length ≤ 1000 := LL.out
      by_cases h : j < L.length
      · have hlt : (j : Int) < (L.length : Int) := by omega
        have hx := LR.out _ (List.getElem_mem h)
        obtain ⟨gl, rfl, hcc⟩ := step_form QL.out j h
        generalize L[j] = x at hx hcc
        have h0 : wr.cell? ⟨gl, j * 8, none⟩ = _ := hcc 0 _ rfl
        have h1' := hcc 1 _ rfl
        have h2' := hcc 2 _ rfl
        have h3' := hcc 3 _ rfl
        have h4' := hcc 4 _ rfl
        have h5' := hcc 5 _ rfl
        have h6' := hcc 6 _ rfl
        have h7' := hcc 7 _ rfl
        have HX := Lib.hid hx
        clear hcc hx
        have hu44 := Try.underlying44
        have hu42 := Try.underlying42
        go_wp2_with fail
        refine (muleteerref15_Right.calls 20 x.f0 x.f1 x.f2 x.f3.f0 x.f3.f1 x.f3.f2 x.f3.f3 x.f3.f4 true _ HX.out).mono ?_
        rintro e w14 ⟨rfl, hb⟩
        have D14 := Lib.hid (DL.out.below hb)
        have Q14 := Lib.hid (QL.out.below hb)
        have B14 := Lib.hid (blk_below BL.out hb)
        clear hb h0 h1' h2' h3' h4' h5' h6' h7' DL QL BL
        go_wp2
        go_roundw
        case rel => exact ⟨j + 1, by omega, by go_num, D14, Q14, B14⟩
        case measure => simp [intOf]; omega
      · have hlt : ¬ (j : Int) < (L.length : Int) := by omega
        obtain ⟨k0, k1, k2, k3, k4, k5, k6, k7, k8, k9, k10, k11⟩ := cells12 BL.out
        go_wp2_with fail
        clear k0 k1 k2 k3 k4 k5 k6 k7 k8 k9 k10 k11
        rcases may_or O a1 a2 a3 a4 a5 a6 a7 a8 a9 a10 a11 with hm | ⟨t, u, e1, e2, e3⟩
        · refine (muleteerref07_Wrong.calls A c O a1 a2 a3 a4 a5 a6 a7 a8 a9 a10 a11 _ _ (Kd.C_below HR.out DL.out.f) hc (wrong_ok hm)).mono ?_
          rintro e w14 ⟨rfl, hb⟩
          have D14 := Lib.hid (DL.out.below hb)
          have B14 := Lib.hid (blk_below BL.out hb)
          clear hb DL QL BL
          go_wp2_with fail
          obtain ⟨⟨v1, v2, v3, v4, v5, v6, v7, v8, v9⟩, hs1, hs2, _⟩ := step_both s3 hm
          have S1 := Lib.hid hs1
          have S2 := Lib.hid (hs2 10 (by omega))
          clear hs1 hs2
          have hu44 := Try.underlying44
          have hu42 := Try.underlying42
          go_wp2_with fail
          have c14 := cells12 B14.out
          have c14' := cells12 (w := w14.drew) B14.out
          go_region_held3 (fun w' => w'.cell? ⟨bc, 0, none⟩ = some (.slice A O.length c) ∧ w'.cell? ⟨bc, 1, none⟩ = some (.int .i64 a1) ∧ w'.cell? ⟨bc, 2, none⟩ = some (.int .i64 a2) ∧ w'.cell? ⟨bc, 3, none⟩ = some (.int .i64 a3) ∧ w'.cell? ⟨bc, 4, none⟩ = some (.int .i64 a4) ∧ w'.cell? ⟨bc, 5, none⟩ = some (.int .i64 a5) ∧ w'.cell? ⟨bc, 6, none⟩ = some (.int .i64 a6) ∧ w'.cell? ⟨bc, 7, none⟩ = some (.int .i64 a7) ∧ w'.cell? ⟨bc, 8, none⟩ = some (.int .i64 a8) ∧ w'.cell? ⟨bc, 9, none⟩ = some (.int .i64 a9) ∧ w'.cell? ⟨bc, 10, none⟩ = some (.int .i64 a10) ∧ w'.cell? ⟨bc, 11, none⟩ = some (.int .u64 a11)) (first | exact c14 | exact c14' | exact c15 | exact c16 | exact c17) (first
            | (go_at_call 6; (with_reducible refine (awake_any _).mono ?_); rintro e w15 ⟨rfl, hb⟩; have c15 := cells12 (blk_below (w := w14.drew) B14.out hb); have D15 := Lib.hid (D14.out.drew.below hb); have B15 := Lib.hid (blk_below (w := w14.drew) B14.out hb); clear hb)
            | (go_at_call 18; (with_reducible refine (step_d D15.out HR.out hc S1.out).mono ?_); rintro e w16 ⟨rfl, hD, hk⟩; have c16 := cells12 (kbn hk B15.out (by omega)); have D16 := Lib.hid hD; have B16 := Lib.hid (kbn hk B15.out (by omega)); clear hD hk)
            | (go_at_call 19; (with_reducible refine (step_q D16.out HR.out hc S2.out).mono ?_); rintro e w17 ⟨rfl, hD, hk⟩; have c17 := cells12 (kbn hk B16.out (by omega)); have D17 := Lib.hid hD; clear hD hk)
            | fail)
          go_wp2
          go_ret
          exact ⟨rfl, D17.out.f⟩
        · refine (muleteerref07_Wrong.calls A c O a1 a2 a3 a4 a5 a6 a7 a8 a9 a10 a11 t _ (Kd.C_below HR.out DL.out.f) hc e1).mono ?_
          rintro e w14 ⟨rfl, hb⟩
          have D14 := Lib.hid (DL.out.below hb)
          have B14 := Lib.hid (blk_below BL.out hb)
          clear hb DL QL BL
          have hLn : L = [] := LE.out (fun hm => by rw [check_ok hm] at e3; have e9 : (0 : Int) = 1 := congrArg Prod.snd (Option.some.inj e3); omega)
          have hl0 : (((L.length : Nat) : Int) == 0) = true := by rw [hLn]; rfl
          have S1 := Lib.hid (step_none s3 e3)
          obtain ⟨⟨r18, s18⟩, hth⟩ := throw_some s3
          have HT2 := Lib.hid hth
          clear hth e3 hLn
          have e4 : t.toList.isEmpty = false := by
            cases hte : t.toList with
            | nil => exact absurd hte e2
            | cons _ _ => rfl
          have e5 : (!t.toList.isEmpty) = true := by rw [e4]; rfl
          have hne2 : (r18 == r18) = true := beq_self_eq_true r18
          have hu44 := Try.underlying44
          have hu42 := Try.underlying42
          go_wp2_with fail
          refine (awake_any _).mono ?_
          rintro e w15 ⟨rfl, hb⟩
          have D15 := Lib.hid (D14.out.below hb)
          have B15 := Lib.hid (blk_below B14.out hb)
          clear hb D14 B14
          obtain ⟨k0, k1, k2, k3, k4, k5, k6, k7, k8, k9, k10, k11⟩ := cells12 B15.out
          go_wp2_with fail
          clear k0 k1 k2 k3 k4 k5 k6 k7 k8 k9 k10 k11
          refine (step_d D15.out HR.out hc S1.out).mono ?_
          rintro e w16 ⟨rfl, hD, hk⟩
          have D16 := Lib.hid hD
          clear hD hk
          go_wp2_with fail
          refine (throw_d D16.out HT2.out).mono ?_
          rintro e w17 ⟨rfl, hD, hk⟩
          have D17 := Lib.hid hD
          clear hD hk
          go_wp2_with fail
          refine (throw_q D17.out HT2.out).mono ?_
          rintro e w18 ⟨rfl, hD, hk⟩
          have D18 := Lib.hid hD
          clear hD hk
          go_wp2
          go_ret
          exact ⟨rfl, D18.out.f⟩
theorem DiceScripts (a0 : Int) (A1_0 : Option Addr) (c1_0 : Nat) (l1_0 : List Bool) (a1_1 a1_2 a1_3 a1_4 a1_5 a1_6 a1_7 a1_8 a1_9 a1_10 a1_11 : Int) (a2 : Int) (w : World) (hr1_0 : Kd.C Kd.bool w A1_0 l1_0.length l1_0) (hc1_0 : l1_0.length ≤ c1_0) {p0 p1 p2 : Prop} (_ : p0) (_ : p1) (_ : p2) :
    Calls Try.prog 3 #[.int .u64 a0, .agg #[.slice A1_0 l1_0.length c1_0, .int .i64 a1_1, .int .i64 a1_2, .int .i64 a1_3, .int .i64 a1_4, .int .i64 a1_5, .int .i64 a1_6, .int .i64 a1_7, .int .i64 a1_8, .int .i64 a1_9, .int .i64 a1_10, .int .u64 a1_11], .int .i64 a2] w fun e w' => e = .returned (.bool true) ∧ Below w.heap.size w w' := by
  by_cases h1 : 20 < l1_0.length
  · exact law_out a0 A1_0 c1_0 l1_0 _ _ _ _ _ _ _ _ _ _ _ a2 w hr1_0 hc1_0 (.inl h1)
  by_cases h2 : 200 < a2
  · by_cases h3 : a2 ≤ 1024
    · exact law_out a0 A1_0 c1_0 l1_0 _ _ _ _ _ _ _ _ _ _ _ a2 w hr1_0 hc1_0 (.inr ⟨h2, h3⟩)
    · exact law_in a0 A1_0 c1_0 l1_0 _ _ _ _ _ _ _ _ _ _ _ a2 w hr1_0 hc1_0 (by omega) (by omega) (.inl ⟨eq_true h2, eq_false h3⟩)
  · exact law_in a0 A1_0 c1_0 l1_0 _ _ _ _ _ _ _ _ _ _ _ a2 w hr1_0 hc1_0 (by omega) (by omega) (.inr (eq_false h2))

end Go.Proofs.Ytlfminnncfgbfaa.Pure
