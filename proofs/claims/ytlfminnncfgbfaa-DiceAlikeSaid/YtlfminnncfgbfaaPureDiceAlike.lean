/- The same seed throws the same: for every seed and every number of 8 bits. -/
import Derived.Test.YtlfminnncfgbfaaPDiceAlikex
import Derived.Laws.Bits64
import Derived.Test.YtlfminnncfgbfaaHandConf
import Derived.Test.YtlfminnncfgbfaaHandRepeat
namespace Go.Proofs.Ytlfminnncfgbfaa.Pure
open Go.RowKit Go.Proofs.Ytlfminnncfgbfaa.Hand Go.Proofs.Ytlfminnncfgbfaa.PDiceAlike Go.Proofs.YtlfminnncfgbfaaW.PrintWords Go.Proofs.YtlfminnncfgbfaaW.PrintLast
set_option linter.unusedVariables false
set_option linter.unusedSimpArgs false

theorem wf64 {n : Int} (h : (Lit.int .i64 n).wf = true) : -9223372036854775808 ≤ n ∧ n ≤ 9223372036854775807 := by
  have hmin : IntKind.i64.min = -9223372036854775808 := rfl
  have hmax : IntKind.i64.max = 9223372036854775807 := rfl
  simp only [Lit.wf, Bool.and_eq_true, decide_eq_true_eq] at h
  omega
theorem wrapu_range (x : Int) : 0 ≤ IntKind.u64.wrap x ∧ IntKind.u64.wrap x < 18446744073709551616 := by rw [IntKind.wrap_u64]; omega
theorem xor_range (z K : Int) (h : 0 ≤ z ∧ z < 18446744073709551616) (hK : 0 < K) : 0 ≤ Go.bits .xor .u64 z (z / K) ∧ Go.bits .xor .u64 z (z / K) < 18446744073709551616 := by
  have h1 : 0 ≤ z / K := Int.ediv_nonneg h.1 (by omega)
  have h2 : z / K ≤ z := Int.ediv_le_self K h.1
  obtain ⟨a, ha⟩ := Int.eq_ofNat_of_zero_le h.1
  obtain ⟨b, hb⟩ := Int.eq_ofNat_of_zero_le h1
  rw [hb, ha]
  have la : a < 2 ^ 64 := by omega
  have lb : b < 2 ^ 64 := by omega
  rw [bits_xor_u64_nat a b (by omega) (by omega)]
  have := Nat.xor_lt_two_pow la lb
  omega
theorem throw_ok (s : Int) : ∃ t s', dice_Dice_Throw.f s = some (t, s') ∧ 0 ≤ t ∧ t < 18446744073709551616 := ⟨_, _, rfl, xor_range _ 2147483648 (wrapu_range _) (by omega)⟩
theorem below_ok (s n : Int) (h1 : 1 ≤ n) (h2 : n ≤ 1000000) : ∃ r s', dice_Dice_Below.f s n = some (r, s') ∧ 0 ≤ r ∧ r < n := by
  obtain ⟨t, s', ht, h3, h4⟩ := throw_ok s
  have e : IntKind.u64.wrap n = n := by rw [IntKind.wrap_u64]; omega
  refine ⟨Int.tmod t n, s', ?_, Int.tmod_nonneg _ h3, Int.tmod_lt_of_pos _ (by omega)⟩
  have hl := Int.tmod_lt_of_pos t (show 0 < n by omega)
  have hg := Int.tmod_nonneg n h3
  unfold dice_Dice_Below.f
  rw [if_neg (by omega), ht, Option.bind_some, e, if_neg (by omega)]
  have : wrap64 (Int.tmod t n) = Int.tmod t n := by unfold wrap64; omega
  rw [this]
theorem some_ok (s n : Int) (h1 : 1 ≤ n) (h2 : n ≤ 1000000) : ∃ r s', dice_Dice_some.f s n = some (r, s') ∧ 1 ≤ r ∧ r ≤ n := by
  obtain ⟨r, s', hr, h3, h4⟩ := below_ok s n h1 h2
  refine ⟨1 + r, s', ?_, by omega, by omega⟩
  unfold dice_Dice_some.f
  rw [hr, Option.bind_some]
  have : wrap64 (1 + r) = 1 + r := by unfold wrap64; omega
  rw [this]
theorem win_yes {n a b : Int} (h1 : a ≤ n) (h2 : n ≤ b) : win n a b = true := decide_eq_true ⟨h1, h2⟩
/-- A config that may be: its numbers. -/
def MayBe (O : List Bool) (a1 a2 a3 a4 a5 a6 a7 a8 a9 a10 a11 : Int) : Prop := (1 ≤ O.length ∧ O.length ≤ 4) ∧ (1 ≤ a1 ∧ a1 ≤ 4) ∧ (1 ≤ a2 ∧ a2 ≤ 8) ∧ (1 ≤ a3 ∧ a3 ≤ 64) ∧ (1 ≤ a4 ∧ a4 ≤ 32) ∧ (1 ≤ a5 ∧ a5 ≤ 16) ∧ (1 ≤ a6 ∧ a6 ≤ 8) ∧ (1 ≤ a7 ∧ a7 ≤ 4) ∧ (1 ≤ a8 ∧ a8 ≤ 8) ∧ (1 ≤ a9 ∧ a9 ≤ 16) ∧ (0 ≤ a10 ∧ a10 ≤ 8)
theorem check_ok {O : List Bool} {a1 a2 a3 a4 a5 a6 a7 a8 a9 a10 a11 : Int} (h : MayBe O a1 a2 a3 a4 a5 a6 a7 a8 a9 a10 a11) : conf_Check.f O a1 a2 a3 a4 a5 a6 a7 a8 a9 a10 a11 = some (⟨#[]⟩, 0) := by
  obtain ⟨h0, h1, h2, h3, h4, h5, h6, h7, h8, h9, h10⟩ := h
  unfold conf_Check.f rulesL
  rw [checkL_yes (win_yes (by omega) (by omega)), checkL_yes (win_yes h1.1 h1.2), checkL_yes (win_yes h2.1 h2.2), checkL_yes (win_yes h3.1 h3.2), checkL_yes (win_yes h4.1 h4.2), checkL_yes (win_yes h5.1 h5.2), checkL_yes (win_yes h6.1 h6.2), checkL_yes (win_yes h7.1 h7.2), checkL_yes (win_yes h8.1 h8.2), checkL_yes (win_yes h9.1 h9.2), checkL_yes (win_yes h10.1 h10.2)]
  rfl
theorem config_l0 (c : Nat) (hc : c ≤ 3) : ∀ j i k s (O : List Bool), i + j = c → O.length = i → 1 ≤ c → j < k → ∃ O' a1 a2 a3 a4 a5 a6 a7 a8 a9 a10 a11 s', dice_Dice_Config.l0 k (c : Int) (i : Int) s O 0 0 0 0 0 0 0 0 0 0 0 = some (O', a1, a2, a3, a4, a5, a6, a7, a8, a9, a10, a11, s') ∧ MayBe O' a1 a2 a3 a4 a5 a6 a7 a8 a9 a10 a11 := by
  intro j
  induction j with
  | zero =>
    intro i k s O hi hO h1 hk
    obtain ⟨k, rfl⟩ : ∃ q, k = q + 1 := ⟨k - 1, by omega⟩
    obtain ⟨r1, s1, e1, b1, c1⟩ := some_ok s 2 (by omega) (by omega)
    obtain ⟨r2, s2, e2, b2, c2⟩ := some_ok s1 3 (by omega) (by omega)
    obtain ⟨r3, s3, e3, b3, c3⟩ := some_ok s2 5 (by omega) (by omega)
    obtain ⟨r4, s4, e4, b4, c4⟩ := some_ok s3 5 (by omega) (by omega)
    obtain ⟨r5, s5, e5, b5, c5⟩ := some_ok s4 3 (by omega) (by omega)
    obtain ⟨r6, s6, e6, b6, c6⟩ := some_ok s5 3 (by omega) (by omega)
    obtain ⟨r7, s7, e7, b7, c7⟩ := some_ok s6 2 (by omega) (by omega)
    obtain ⟨r8, s8, e8, b8, c8⟩ := some_ok s7 4 (by omega) (by omega)
    obtain ⟨r9, s9, e9, b9, c9⟩ := some_ok s8 5 (by omega) (by omega)
    obtain ⟨r10, s10, e10, b10, c10⟩ := below_ok s9 3 (by omega) (by omega)
    obtain ⟨r11, s11, e11, b11, c11⟩ := below_ok s10 1000 (by omega) (by omega)
    refine ⟨O, r1, r2, r3, r4, r5, r6, r7, r8, r9, r10, IntKind.u64.wrap r11, s11, ?_, ⟨by omega, by omega⟩, ⟨b1, by omega⟩, ⟨b2, by omega⟩, ⟨b3, by omega⟩, ⟨b4, by omega⟩, ⟨b5, by omega⟩, ⟨b6, by omega⟩, ⟨b7, by omega⟩, ⟨b8, by omega⟩, ⟨b9, by omega⟩, ⟨b10, by omega⟩⟩
    rw [dice_Dice_Config.l0, if_neg (by omega)]
    rw [e1, Option.bind_some, e2, Option.bind_some, e3, Option.bind_some, e4, Option.bind_some, e5, Option.bind_some, e6, Option.bind_some, e7, Option.bind_some, e8, Option.bind_some, e9, Option.bind_some, e10, Option.bind_some, e11, Option.bind_some]
  | succ j ih =>
    intro i k s O hi hO h1 hk
    obtain ⟨k, rfl⟩ : ∃ q, k = q + 1 := ⟨k - 1, by omega⟩
    obtain ⟨r, s', e, _, _⟩ := below_ok s 3 (by omega) (by omega)
    have w1 : wrap64 ((i : Int) + 1) = ((i + 1 : Nat) : Int) := by unfold wrap64; omega
    rw [dice_Dice_Config.l0, if_pos (by omega), e, Option.bind_some, if_pos (by omega), w1]
    exact ih (i + 1) k s' (O ++ [(r == 0)]) (by omega) (by simp [hO]) h1 (by omega)
theorem config_ok (s : Int) : ∃ O a1 a2 a3 a4 a5 a6 a7 a8 a9 a10 a11 s', dice_Dice_Config.f 10 s = some (O, a1, a2, a3, a4, a5, a6, a7, a8, a9, a10, a11, s') ∧ MayBe O a1 a2 a3 a4 a5 a6 a7 a8 a9 a10 a11 := by
  obtain ⟨r, s', e, h1, h2⟩ := some_ok s 3 (by omega) (by omega)
  obtain ⟨c, rfl⟩ := Int.eq_ofNat_of_zero_le (show 0 ≤ r by omega)
  unfold dice_Dice_Config.f
  rw [e, Option.bind_some]
  exact config_l0 c (by omega) c 0 10 s' [] (by omega) rfl (by omega) (by omega)
theorem repeat_ok (s : ByteArray) (n : Int) (h1 : 0 ≤ n) (h2 : n ≤ 1000) (h3 : s.size ≤ 1000) : ∃ r, strings_Repeat.f s n = some r := by
  unfold strings_Repeat.f
  rw [if_pos ⟨h1, h2, h3⟩]
  exact ⟨_, rfl⟩
theorem packet_ok (s : Int) {O : List Bool} {a1 a2 a3 a4 a5 a6 a7 a8 a9 a10 a11 : Int} (h : MayBe O a1 a2 a3 a4 a5 a6 a7 a8 a9 a10 a11) : ∃ r, dice_Dice_packet.f s O a1 a2 a3 a4 a5 a6 a7 a8 a9 a10 a11 = some r := by
  have h0 := h.1
  obtain ⟨r1, s1, e1, b1, c1⟩ := below_ok s (O.length : Int) (by omega) (by omega)
  obtain ⟨r2, s2, e2, b2, c2⟩ := below_ok s1 2 (by omega) (by omega)
  obtain ⟨r3, s3, e3, b3, c3⟩ := below_ok s2 2 (by omega) (by omega)
  unfold dice_Dice_packet.f
  rw [e1, Option.bind_some, e2, Option.bind_some, e3, Option.bind_some]
  by_cases hz : r3 = 0
  · rw [if_pos hz]
    obtain ⟨r4, s4, e4, b4, c4⟩ := below_ok s3 4 (by omega) (by omega)
    obtain ⟨r5, e5⟩ := repeat_ok (⟨#[97]⟩ : ByteArray) r4 b4 (by omega) (by decide)
    rw [e4, Option.bind_some, e5, Option.bind_some]
    exact ⟨_, rfl⟩
  · rw [if_neg hz]
    obtain ⟨r4, s4, e4, b4, c4⟩ := some_ok s3 20 (by omega) (by omega)
    obtain ⟨r6, s6, e6, b6, c6⟩ := below_ok s4 4 (by omega) (by omega)
    obtain ⟨r5, e5⟩ := repeat_ok (⟨#[97]⟩ : ByteArray) r6 b6 (by omega) (by decide)
    rw [e4, Option.bind_some, e6, Option.bind_some, e5, Option.bind_some]
    exact ⟨_, rfl⟩
theorem step_ok (s : Int) {O : List Bool} {a1 a2 a3 a4 a5 a6 a7 a8 a9 a10 a11 : Int} (h : MayBe O a1 a2 a3 a4 a5 a6 a7 a8 a9 a10 a11) : ∃ r, dice_Dice_Step.f s O a1 a2 a3 a4 a5 a6 a7 a8 a9 a10 a11 = some r := by
  have h0 := h.1
  have h1 := h.2.1
  obtain ⟨n, s1, e1, b1, c1⟩ := below_ok s 40 (by omega) (by omega)
  obtain ⟨q1, t1, f1, _, _⟩ := below_ok s1 16 (by omega) (by omega)
  obtain ⟨q2, t2, f2, _, _⟩ := below_ok s1 2 (by omega) (by omega)
  obtain ⟨q3, t3, f3, _, _⟩ := below_ok s1 4 (by omega) (by omega)
  obtain ⟨q4, t4, f4, _, _⟩ := some_ok t2 a1 (by omega) (by omega)
  obtain ⟨p, f5⟩ := packet_ok s1 h
  have f6 : conf_Workers.f O a1 a2 a3 a4 a5 a6 a7 a8 a9 a10 a11 = some (2 * (O.length : Int)) := by
    unfold conf_Workers.f
    rw [check_ok h, Option.bind_some, if_pos rfl]
    have : wrap64 (2 * (O.length : Int)) = 2 * (O.length : Int) := by unfold wrap64; omega
    rw [this]
  obtain ⟨q7, t7, f7, _, _⟩ := below_ok s1 (2 * (O.length : Int)) (by omega) (by omega)
  unfold dice_Dice_Step.f
  rw [check_ok h, Option.bind_some, if_pos rfl, e1, Option.bind_some]
  by_cases c28 : n < 28
  · rw [if_pos c28, f1, Option.bind_some]
    exact ⟨_, rfl⟩
  rw [if_neg c28]
  by_cases c33 : n < 33
  · rw [if_pos c33, f2, Option.bind_some]
    exact ⟨_, rfl⟩
  rw [if_neg c33]
  by_cases c36 : n < 36
  · rw [if_pos c36, f5, Option.bind_some]
    exact ⟨_, rfl⟩
  rw [if_neg c36]
  by_cases c37 : n < 37
  · rw [if_pos c37, f6, Option.bind_some, f7, Option.bind_some]
    exact ⟨_, rfl⟩
  rw [if_neg c37]
  by_cases c38 : n < 38
  · rw [if_pos c38, f2, Option.bind_some, f4, Option.bind_some]
    exact ⟨_, rfl⟩
  rw [if_neg c38]
  by_cases c39 : n < 39
  · rw [if_pos c39, f2, Option.bind_some]
    exact ⟨_, rfl⟩
  rw [if_neg c39, f3, Option.bind_some]
  by_cases c0 : q3 = 0
  · rw [if_pos c0]
    exact ⟨_, rfl⟩
  · rw [if_neg c0]
    exact ⟨_, rfl⟩
theorem script_l0 (N : Nat) (hN : N ≤ 1000) {O : List Bool} {a1 a2 a3 a4 a5 a6 a7 a8 a9 a10 a11 : Int} (h : MayBe O a1 a2 a3 a4 a5 a6 a7 a8 a9 a10 a11) (z : S44) : ∀ j i k s (L : List S44), i + j = N → L.length = i + 1 → L[0]? = some z → j < k → ∃ L' s', dice_Dice_Script.l0 k L (N : Int) (i : Int) s O a1 a2 a3 a4 a5 a6 a7 a8 a9 a10 a11 = some (L', s') ∧ L'.length = N + 1 ∧ L'[0]? = some z := by
  intro j
  induction j with
  | zero =>
    intro i k s L hi hL hz hk
    obtain ⟨k, rfl⟩ : ∃ q, k = q + 1 := ⟨k - 1, by omega⟩
    exact ⟨L, s, by rw [dice_Dice_Script.l0, if_neg (by omega)], by omega, hz⟩
  | succ j ih =>
    intro i k s L hi hL hz hk
    obtain ⟨k, rfl⟩ : ∃ q, k = q + 1 := ⟨k - 1, by omega⟩
    obtain ⟨r, e⟩ := step_ok s h
    have w1 : wrap64 ((i : Int) + 1) = ((i + 1 : Nat) : Int) := by unfold wrap64; omega
    rw [dice_Dice_Script.l0, if_pos (by omega), e, Option.bind_some, if_pos (by omega), w1]
    exact ih (i + 1) k _ _ (by omega) (by simp [hL]) (by rw [List.getElem?_append_left (by omega)]; exact hz) (by omega)

structure Dd (w W : World) (P ga gb : Nat) (s t : Int) : Prop where
  a : IsS49 w W ga s
  b : IsS49 w W gb t
  ne : ga ≠ gb
  la : ga < P
  lb : gb < P
  f : Below w.heap.size w W
  hP : w.heap.size ≤ P
  sz : P ≤ W.heap.size
theorem Dd.size {w W : World} {P ga gb : Nat} {s t : Int} (T : Dd w W P ga gb s t) : P ≤ W.heap.size := T.sz
theorem Dd.keepA {w W W' : World} {P ga gb : Nat} {s t s' : Int} (T : Dd w W P ga gb s t) (ha : IsS49 w W' ga s') (hb : Below w.heap.size w W') (hk : KeepBut W W' ga none) : Dd w W' P ga gb s' t :=
  ⟨ha, ⟨(hk.2 gb (blk_lt T.b.1) (Ne.symm T.ne) (by simp)).trans T.b.1, T.b.2⟩, T.ne, T.la, T.lb, hb, T.hP, Nat.le_trans T.sz hk.1⟩
theorem Dd.keepB {w W W' : World} {P ga gb : Nat} {s t t' : Int} (T : Dd w W P ga gb s t) (hb : IsS49 w W' gb t') (hf : Below w.heap.size w W') (hk : KeepBut W W' gb none) : Dd w W' P ga gb s t' :=
  ⟨⟨(hk.2 ga (blk_lt T.a.1) T.ne (by simp)).trans T.a.1, T.a.2⟩, hb, T.ne, T.la, T.lb, hf, T.hP, Nat.le_trans T.sz hk.1⟩
theorem Dd.below {w W W' : World} {P ga gb : Nat} {s t : Int} (T : Dd w W P ga gb s t) (h : Below W.heap.size W W') : Dd w W' P ga gb s t :=
  ⟨T.a.below h, T.b.below h, T.ne, T.la, T.lb, below_step T.f h, T.hP, Nat.le_trans T.sz h.size⟩
/-- A row of one's own, made behind P. -/
def Mine {α : Type} (d : Kd α) (e : Nat) (W : World) (P : Nat) (A : Option Addr) (c : Nat) (O : List α) : Prop := d.R e W P (fun k => P ≤ k) (.slice A O.length c) O
section
variable {α : Type} {d : Kd α} {e : Nat}
theorem Mine.keep {W W' : World} {P g : Nat} {A : Option Addr} {c : Nat} {O : List α} (h : Mine d e W P A c O) (hk : KeepBut W W' g none) (hg : g < P) : Mine d e W' P A c O := Kd.R_keep h hk (fun k hk => by omega)
theorem Mine.below {W W' : World} {P : Nat} {A : Option Addr} {c : Nat} {O : List α} (h : Mine d e W P A c O) (hk : Below W.heap.size W W') : Mine d e W' P A c O := Kd.R_below h hk
theorem Mine.reads {W : World} {P : Nat} {A : Option Addr} {c : Nat} {O : List α} (h : Mine d e W P A c O) : O.length ≤ c ∧ d.C W A O.length O := (Kd.R_reads' h).2
theorem Mine.far {W : World} {P g : Nat} {A : Option Addr} {c : Nat} {O : List α} (h : Mine d e W P A c O) (hg : g < P) : ∀ ad, A = some ad → 0 < O.length → ad.block ≠ g := by
  intro ad ha hp
  obtain ⟨b, cap, hv, hb, _⟩ := Kd.R_form h hp
  injection hv with h1 h2 h3
  rw [ha] at h1
  rw [Option.some.inj h1]
  show b ≠ g
  omega
theorem mine_of {W : World} {P B : Nat} {A : Option Addr} {c : Nat} {O : List α} (h : d.R e W B (fun _ => True) (.slice A O.length c) O) (hB : P ≤ B) : Mine d e W P A c O := Kd.R_lower (Kd.R_mono (Kd.R_bound h) (fun k hk => Nat.le_trans hB hk.2.1)) hB
end
def Cells24 (W : World) (b : Nat) (A : Option Addr) (n c : Nat) (B : Option Addr) (n' cb : Nat) (a1 a2 a3 a4 a5 a6 a7 a8 a9 a10 a11 : Int) : Prop := W.cell? ⟨b, 0, none⟩ = some (.slice A n c) ∧ W.cell? ⟨b, 1, none⟩ = some (.int .i64 a1) ∧ W.cell? ⟨b, 2, none⟩ = some (.int .i64 a2) ∧ W.cell? ⟨b, 3, none⟩ = some (.int .i64 a3) ∧ W.cell? ⟨b, 4, none⟩ = some (.int .i64 a4) ∧ W.cell? ⟨b, 5, none⟩ = some (.int .i64 a5) ∧ W.cell? ⟨b, 6, none⟩ = some (.int .i64 a6) ∧ W.cell? ⟨b, 7, none⟩ = some (.int .i64 a7) ∧ W.cell? ⟨b, 8, none⟩ = some (.int .i64 a8) ∧ W.cell? ⟨b, 9, none⟩ = some (.int .i64 a9) ∧ W.cell? ⟨b, 10, none⟩ = some (.int .i64 a10) ∧ W.cell? ⟨b, 11, none⟩ = some (.int .u64 a11) ∧ W.cell? ⟨b + 1, 0, none⟩ = some (.slice B n' cb) ∧ W.cell? ⟨b + 1, 1, none⟩ = some (.int .i64 a1) ∧ W.cell? ⟨b + 1, 2, none⟩ = some (.int .i64 a2) ∧ W.cell? ⟨b + 1, 3, none⟩ = some (.int .i64 a3) ∧ W.cell? ⟨b + 1, 4, none⟩ = some (.int .i64 a4) ∧ W.cell? ⟨b + 1, 5, none⟩ = some (.int .i64 a5) ∧ W.cell? ⟨b + 1, 6, none⟩ = some (.int .i64 a6) ∧ W.cell? ⟨b + 1, 7, none⟩ = some (.int .i64 a7) ∧ W.cell? ⟨b + 1, 8, none⟩ = some (.int .i64 a8) ∧ W.cell? ⟨b + 1, 9, none⟩ = some (.int .i64 a9) ∧ W.cell? ⟨b + 1, 10, none⟩ = some (.int .i64 a10) ∧ W.cell? ⟨b + 1, 11, none⟩ = some (.int .u64 a11)
theorem cells24 {W : World} {b : Nat} {A : Option Addr} {n c : Nat} {B : Option Addr} {n' cb : Nat} {a1 a2 a3 a4 a5 a6 a7 a8 a9 a10 a11 : Int} (h : W.heap[b]? = some (.cells #[.slice A n c, .int .i64 a1, .int .i64 a2, .int .i64 a3, .int .i64 a4, .int .i64 a5, .int .i64 a6, .int .i64 a7, .int .i64 a8, .int .i64 a9, .int .i64 a10, .int .u64 a11] 25 (0, 0))) (h' : W.heap[b + 1]? = some (.cells #[.slice B n' cb, .int .i64 a1, .int .i64 a2, .int .i64 a3, .int .i64 a4, .int .i64 a5, .int .i64 a6, .int .i64 a7, .int .i64 a8, .int .i64 a9, .int .i64 a10, .int .u64 a11] 25 (0, 0))) :
    Cells24 W b A n c B n' cb a1 a2 a3 a4 a5 a6 a7 a8 a9 a10 a11 := ⟨(blk_cell h 0).trans rfl, (blk_cell h 1).trans rfl, (blk_cell h 2).trans rfl, (blk_cell h 3).trans rfl, (blk_cell h 4).trans rfl, (blk_cell h 5).trans rfl, (blk_cell h 6).trans rfl, (blk_cell h 7).trans rfl, (blk_cell h 8).trans rfl, (blk_cell h 9).trans rfl, (blk_cell h 10).trans rfl, (blk_cell h 11).trans rfl, (blk_cell h' 0).trans rfl, (blk_cell h' 1).trans rfl, (blk_cell h' 2).trans rfl, (blk_cell h' 3).trans rfl, (blk_cell h' 4).trans rfl, (blk_cell h' 5).trans rfl, (blk_cell h' 6).trans rfl, (blk_cell h' 7).trans rfl, (blk_cell h' 8).trans rfl, (blk_cell h' 9).trans rfl, (blk_cell h' 10).trans rfl, (blk_cell h' 11).trans rfl⟩
theorem blk_new2 (w : World) (o o' : Obj) : ((w.alloc o).alloc o').heap[w.heap.size + 1]? = some o' := by
  have h := blk_new (w.alloc o) o'
  rwa [World.size_alloc] at h
theorem kb_blk {W W' : World} {g k : Nat} {o : Obj} (hk : KeepBut W.drew W' g none) (h : W.heap[k]? = some o) (hg : g < k) : W'.heap[k]? = some o := (hk.2 k (blk_lt h) (by omega) (by simp)).trans h
theorem kb_blk0 {W W' : World} {g k : Nat} {o : Obj} (hk : KeepBut W W' g none) (h : W.heap[k]? = some o) (hg : g < k) : W'.heap[k]? = some o := (hk.2 k (blk_lt h) (by omega) (by simp)).trans h
theorem Dd.drew {w W : World} {P ga gb : Nat} {s t : Int} (T : Dd w W P ga gb s t) : Dd w W.drew P ga gb s t := T.below (below_drew1 (Below.refl _ _))
theorem Mine.drew {α : Type} {d : Kd α} {e : Nat} {W : World} {P : Nat} {A : Option Addr} {c : Nat} {O : List α} (h : Mine d e W P A c O) : Mine d e W.drew P A c O := h.below (below_drew1 (Below.refl _ _))
theorem script_a {w W : World} {P ga gb : Nat} {s t : Int} {A : Option Addr} {c : Nat} {O : List Bool} {a1 a2 a3 a4 a5 a6 a7 a8 a9 a10 a11 m s2 : Int} {k : Nat} {L : List S44} (D : Dd w W P ga gb s t) (M : Mine Kd.bool 4 W P A c O) (h : dice_Dice_Script.f k s O a1 a2 a3 a4 a5 a6 a7 a8 a9 a10 a11 m = some (L, s2)) :
    Calls Try.prog 12 #[.pointer (some ⟨ga, 0, none⟩), .agg #[.slice A O.length c, .int .i64 a1, .int .i64 a2, .int .i64 a3, .int .i64 a4, .int .i64 a5, .int .i64 a6, .int .i64 a7, .int .i64 a8, .int .i64 a9, .int .i64 a10, .int .u64 a11], .int .i64 m] W fun e w' => ∃ LA lc, e = .returned (.slice LA L.length lc) ∧ Mine k44 44 w' P LA lc L ∧ Dd w w' P ga gb s2 t ∧ KeepBut W w' ga none := by
  refine (dice_Dice_Script.calls k ga s A c O a1 a2 a3 a4 a5 a6 a7 a8 a9 a10 a11 m L s2 w W D.a D.f M.reads.2 M.reads.1 (M.far D.la) h).mono ?_
  rintro e w' ⟨v, rfl, hR, hI, hB, hk⟩
  obtain ⟨LA, lc, rfl⟩ := Kd.R_slice hR
  exact ⟨LA, lc, rfl, mine_of hR (Nat.le_trans (Nat.le_refl _) D.size), D.keepA hI hB hk, hk⟩
theorem script_b {w W : World} {P ga gb : Nat} {s t : Int} {A : Option Addr} {c : Nat} {O : List Bool} {a1 a2 a3 a4 a5 a6 a7 a8 a9 a10 a11 m s2 : Int} {k : Nat} {L : List S44} (D : Dd w W P ga gb s t) (M : Mine Kd.bool 4 W P A c O) (h : dice_Dice_Script.f k t O a1 a2 a3 a4 a5 a6 a7 a8 a9 a10 a11 m = some (L, s2)) :
    Calls Try.prog 12 #[.pointer (some ⟨gb, 0, none⟩), .agg #[.slice A O.length c, .int .i64 a1, .int .i64 a2, .int .i64 a3, .int .i64 a4, .int .i64 a5, .int .i64 a6, .int .i64 a7, .int .i64 a8, .int .i64 a9, .int .i64 a10, .int .u64 a11], .int .i64 m] W fun e w' => ∃ LA lc, e = .returned (.slice LA L.length lc) ∧ Mine k44 44 w' P LA lc L ∧ Dd w w' P ga gb s s2 ∧ KeepBut W w' gb none := by
  refine (dice_Dice_Script.calls k gb t A c O a1 a2 a3 a4 a5 a6 a7 a8 a9 a10 a11 m L s2 w W D.b D.f M.reads.2 M.reads.1 (M.far D.lb) h).mono ?_
  rintro e w' ⟨v, rfl, hR, hI, hB, hk⟩
  obtain ⟨LA, lc, rfl⟩ := Kd.R_slice hR
  exact ⟨LA, lc, rfl, mine_of hR (Nat.le_trans (Nat.le_refl _) D.size), D.keepB hI hB hk, hk⟩
theorem script_ok (s : Int) (m : Nat) (hm : m ≤ 1000) {O : List Bool} {a1 a2 a3 a4 a5 a6 a7 a8 a9 a10 a11 : Int} (h : MayBe O a1 a2 a3 a4 a5 a6 a7 a8 a9 a10 a11) : ∃ L s2, dice_Dice_Script.f 1100 s O a1 a2 a3 a4 a5 a6 a7 a8 a9 a10 a11 (1 + (m : Int)) = some (L, s2) ∧ L.length = 1 + m ∧ L[0]? = some ⟨8, 0, 0, ⟨0, 0, 0, 0, ⟨#[]⟩⟩⟩ := by
  obtain ⟨L, s2, h1, h2, h3⟩ := script_l0 m hm h (⟨8, 0, 0, ⟨0, 0, 0, 0, ⟨#[]⟩⟩⟩) m 0 1099 s [⟨8, 0, 0, ⟨0, 0, 0, 0, ⟨#[]⟩⟩⟩] (by omega) rfl rfl (by omega)
  refine ⟨L, s2, ?_, by omega, h3⟩
  have e : wrap64 (1 + (m : Int) - 1) = (m : Int) := by unfold wrap64; omega
  unfold dice_Dice_Script.f
  rw [check_ok h, Option.bind_some, if_pos rfl, if_neg (by omega), decide_eq_false (by omega), dice_Dice_Script.j0, if_neg (by decide), e]
  exact h1
theorem awake_tells : muleteerlaw40_awake.f = some true := by decide +kernel
theorem same07 {O : List Bool} (hO : O.length ≤ 4) (a1 a2 a3 a4 a5 a6 a7 a8 a9 a10 a11 : Int) : muleteerref07_Same.f 10 O a1 a2 a3 a4 a5 a6 a7 a8 a9 a10 a11 O a1 a2 a3 a4 a5 a6 a7 a8 a9 a10 a11 = some true := by
  have key : ∀ j i k, i + j = O.length → j < k → muleteerref07_Same.l0 k (i : Int) O a1 a2 a3 a4 a5 a6 a7 a8 a9 a10 a11 O a1 a2 a3 a4 a5 a6 a7 a8 a9 a10 a11 = some true := by
    intro j
    induction j with
    | zero =>
      intro i k hi hk
      obtain ⟨k, rfl⟩ : ∃ q, k = q + 1 := ⟨k - 1, by omega⟩
      rw [muleteerref07_Same.l0, if_neg (by omega)]
      simp
    | succ j ih =>
      intro i k hi hk
      obtain ⟨k, rfl⟩ : ∃ q, k = q + 1 := ⟨k - 1, by omega⟩
      have w1 : wrap64 ((i : Int) + 1) = ((i + 1 : Nat) : Int) := by unfold wrap64; omega
      rw [muleteerref07_Same.l0, if_pos (by omega), if_pos (by omega), if_pos (by omega), w1, ih (i + 1) k (by omega) (by omega)]
      cases rdOf false O (i : Int) <;> rfl
  unfold muleteerref07_Same.f
  rw [if_pos rfl]
  exact key O.length 0 10 (by omega) (by omega)
theorem same15 (L : List S44) (hL : L.length ≤ 1000) (k : Nat) (hk : 1010 ≤ k) : muleteerref15_Same.f k L L = some true := by
  have key : ∀ j i k, i + j = L.length → j < k → muleteerref15_Same.l0 k L L (i : Int) = some true := by
    intro j
    induction j with
    | zero =>
      intro i k hi hk
      obtain ⟨k, rfl⟩ : ∃ q, k = q + 1 := ⟨k - 1, by omega⟩
      rw [muleteerref15_Same.l0, if_neg (by omega)]
    | succ j ih =>
      intro i k hi hk
      obtain ⟨k, rfl⟩ : ∃ q, k = q + 1 := ⟨k - 1, by omega⟩
      have w1 : wrap64 ((i : Int) + 1) = ((i + 1 : Nat) : Int) := by unfold wrap64; omega
      rw [muleteerref15_Same.l0, if_pos (by omega), if_pos (by omega), if_pos (by omega), w1, ih (i + 1) k (by omega) (by omega)]
      simp
  unfold muleteerref15_Same.f
  rw [if_pos rfl]
  exact key L.length 0 k (by omega) (by omega)
theorem first_cells {W : World} {P : Nat} {LA : Option Addr} {lc : Nat} {L : List S44} (M : Mine k44 44 W P LA lc L) (hz : L[0]? = some ⟨8, 0, 0, ⟨0, 0, 0, 0, ⟨#[]⟩⟩⟩) :
    ∃ g, LA = some ⟨g, 0, none⟩ ∧ W.cell? ⟨g, 0, none⟩ = some (.int .i64 8) ∧ W.cell? ⟨g, 1, none⟩ = some (.int .i64 0) ∧ W.cell? ⟨g, 2, none⟩ = some (.int .i64 0) ∧ W.cell? ⟨g, 3, none⟩ = some (.int .i64 0) ∧ W.cell? ⟨g, 4, none⟩ = some (.int .i64 0) ∧ W.cell? ⟨g, 5, none⟩ = some (.int .u64 0) ∧ W.cell? ⟨g, 6, none⟩ = some (.int .u64 0) ∧ W.cell? ⟨g, 7, none⟩ = some (.string ⟨#[]⟩) := by
  have hp : 0 < L.length := by
    rcases Nat.eq_zero_or_pos L.length with h | h
    · rw [List.eq_nil_of_length_eq_zero h] at hz; cases hz
    · exact h
  obtain ⟨g, cap, hv, _⟩ := Kd.R_form M hp
  injection hv with h1 h2 h3
  subst h1
  obtain ⟨ad, c0, e, hcl, hK, hcc⟩ := Kd.C_get M.reads.2 z44 0 (by omega) (by omega)
  obtain rfl := Option.some.inj e
  have hc := k44_open hK
  have hg : L.getD (0 : Int).toNat z44 = ⟨8, 0, 0, ⟨0, 0, 0, 0, ⟨#[]⟩⟩⟩ := by
    show L.getD 0 z44 = _
    rw [List.getD_eq_getElem?_getD, hz, Option.getD_some]
  rw [hg] at hc
  subst hc
  exact ⟨g, rfl, hcc 0 _ rfl, hcc 1 _ rfl, hcc 2 _ rfl, hcc 3 _ rfl, hcc 4 _ rfl, hcc 5 _ rfl, hcc 6 _ rfl, hcc 7 _ rfl⟩
theorem new_any (a0 : Int) (w : World) : Calls Try.prog 7 #[.int .u64 a0] w fun e w' => ∃ g, e = .returned (.pointer (some ⟨g, 0, none⟩)) ∧ IsS49 w w' g a0 ∧ Below w.heap.size w w' :=
  (dice_New.calls a0 a0 w w (Below.refl _ _) rfl).mono fun _ _ ⟨g, h1, h2, h3, _⟩ => ⟨g, h1, h2, h3⟩
def cfgC (A : Option Addr) (n c : Nat) (a1 a2 a3 a4 a5 a6 a7 a8 a9 a10 a11 : Int) : Array Value := #[.slice A n c, .int .i64 a1, .int .i64 a2, .int .i64 a3, .int .i64 a4, .int .i64 a5, .int .i64 a6, .int .i64 a7, .int .i64 a8, .int .i64 a9, .int .i64 a10, .int .u64 a11]
set_option maxHeartbeats 4000000 in
set_option maxRecDepth 100000 in
theorem alike_any (s : Int) (n : Nat) (w : World) (hn : n < 256) :
    Calls Try.prog 4 #[.int .u64 s, .int .u8 (n : Int)] w fun e w' => e = .returned (.bool true) ∧ Below w.heap.size w w' := by
  obtain ⟨O, a1, a2, a3, a4, a5, a6, a7, a8, a9, a10, a11, s1, hcf, hmb⟩ := config_ok s
  have HC := Lib.hid hcf
  have HM := Lib.hid hmb
  clear hcf hmb
  go_enter Try.func4, Try.ntmps4
  go_wp2_with fail
  refine (new_any s _).mono ?_
  rintro e w1 ⟨ga, rfl, ha1, hb1⟩
  have HA1 := Lib.hid ha1
  have HB1 := Lib.hid hb1
  clear ha1 hb1
  go_wp2_with fail
  refine (new_any s _).mono ?_
  rintro e w2 ⟨gb, rfl, ha2, hb2⟩
  have D2 : Hid (Dd w w2 w2.heap.size ga gb s s) := Lib.hid ⟨HA1.out.below hb2, ⟨ha2.1, Nat.le_trans HB1.out.size ha2.2⟩, by have := blk_lt HA1.out.1; have := ha2.2; omega, Nat.lt_of_lt_of_le (blk_lt HA1.out.1) hb2.size, blk_lt ha2.1, below_step HB1.out hb2, Nat.le_trans HB1.out.size hb2.size, Nat.le_refl _⟩
  clear ha2 hb2 HA1 HB1
  go_wp2_with fail
  refine (dice_Dice_Config.calls 10 ga s O a1 a2 a3 a4 a5 a6 a7 a8 a9 a10 a11 s1 w w2 D2.out.a D2.out.f HC.out).mono ?_
  rintro e w3 ⟨va, rfl, hR3, hI3, hB3, hk3⟩
  obtain ⟨A, c, rfl⟩ := Kd.R_slice hR3
  have M3 := Lib.hid (mine_of hR3 (Nat.le_refl _))
  have D3 := Lib.hid (D2.out.keepA hI3 hB3 hk3)
  have hP3 : w2.heap.size ≤ w3.heap.size := hk3.1
  clear hR3 hI3 hB3 hk3
  go_wp2_with fail
  refine (dice_Dice_Config.calls 10 gb s O a1 a2 a3 a4 a5 a6 a7 a8 a9 a10 a11 s1 w w3 D3.out.b D3.out.f HC.out).mono ?_
  rintro e w4 ⟨vb, rfl, hR4, hI4, hB4, hk4⟩
  obtain ⟨B, cb, rfl⟩ := Kd.R_slice hR4
  have N4 := Lib.hid (mine_of hR4 hP3)
  have M4 := Lib.hid (M3.out.keep hk4 D3.out.lb)
  have D4 := Lib.hid (D3.out.keepB hI4 hB4 hk4)
  have hP34 : w3.heap.size ≤ w4.heap.size := hk4.1
  clear hR4 hI4 hB4 hk4 M3 D3 D2
  go_wp2_with fail
  have D5 := Lib.hid ((D4.out.below (below_alloc (Below.refl _ _) (.cells (cfgC A O.length c a1 a2 a3 a4 a5 a6 a7 a8 a9 a10 a11) 25))).below (below_alloc (Below.refl _ _) (.cells (cfgC B O.length cb a1 a2 a3 a4 a5 a6 a7 a8 a9 a10 a11) 25)))
  have M5 := Lib.hid ((M4.out.below (below_alloc (Below.refl _ _) (.cells (cfgC A O.length c a1 a2 a3 a4 a5 a6 a7 a8 a9 a10 a11) 25))).below (below_alloc (Below.refl _ _) (.cells (cfgC B O.length cb a1 a2 a3 a4 a5 a6 a7 a8 a9 a10 a11) 25)))
  have N5 := Lib.hid ((N4.out.below (below_alloc (Below.refl _ _) (.cells (cfgC A O.length c a1 a2 a3 a4 a5 a6 a7 a8 a9 a10 a11) 25))).below (below_alloc (Below.refl _ _) (.cells (cfgC B O.length cb a1 a2 a3 a4 a5 a6 a7 a8 a9 a10 a11) 25)))
  have X5 := Lib.hid (blk_alloc (blk_new w4 (.cells (cfgC A O.length c a1 a2 a3 a4 a5 a6 a7 a8 a9 a10 a11) 25)) (.cells (cfgC B O.length cb a1 a2 a3 a4 a5 a6 a7 a8 a9 a10 a11) 25))
  have Y5 := Lib.hid (blk_new2 w4 (.cells (cfgC A O.length c a1 a2 a3 a4 a5 a6 a7 a8 a9 a10 a11) 25) (.cells (cfgC B O.length cb a1 a2 a3 a4 a5 a6 a7 a8 a9 a10 a11) 25))
  have hP4 : w2.heap.size ≤ w4.heap.size := Nat.le_trans hP3 hP34
  clear D4 M4 N4
  unfold cfgC at D5 M5 N5 X5 Y5
  generalize (w4.alloc _).alloc _ = W at D5 M5 N5 X5 Y5 ⊢
  obtain ⟨L, s2, hsc, hL, hz⟩ := script_ok s1 (n % 100) (by omega) HM.out
  have HS := Lib.hid hsc
  have HL := Lib.hid hL
  have HZ := Lib.hid hz
  have e1 : (n : Int).tmod 100 = ((n % 100 : Nat) : Int) := by rw [Int.ofNat_tmod]; rfl
  have hm : n % 100 < 100 := Nat.mod_lt _ (by omega)
  clear hsc hL hz
  generalize n % 100 = m at e1 hm HS HL
  have e2 : IntKind.i64.wrap (m : Int) = (m : Int) := by rw [IntKind.wrap_i64]; omega
  have e3 : IntKind.i64.wrap (1 + (m : Int)) = 1 + (m : Int) := by rw [IntKind.wrap_i64]; omega
  have c5 := cells24 X5.out Y5.out
  have c5' : Cells24 W.drew w4.heap.size A O.length c B O.length cb a1 a2 a3 a4 a5 a6 a7 a8 a9 a10 a11 := c5
  unfold Cells24 at c5 c5'
  go_region_held3 (fun w' => w'.cell? ⟨w4.heap.size, 0, none⟩ = some (.slice A O.length c) ∧ w'.cell? ⟨w4.heap.size, 1, none⟩ = some (.int .i64 a1) ∧ w'.cell? ⟨w4.heap.size, 2, none⟩ = some (.int .i64 a2) ∧ w'.cell? ⟨w4.heap.size, 3, none⟩ = some (.int .i64 a3) ∧ w'.cell? ⟨w4.heap.size, 4, none⟩ = some (.int .i64 a4) ∧ w'.cell? ⟨w4.heap.size, 5, none⟩ = some (.int .i64 a5) ∧ w'.cell? ⟨w4.heap.size, 6, none⟩ = some (.int .i64 a6) ∧ w'.cell? ⟨w4.heap.size, 7, none⟩ = some (.int .i64 a7) ∧ w'.cell? ⟨w4.heap.size, 8, none⟩ = some (.int .i64 a8) ∧ w'.cell? ⟨w4.heap.size, 9, none⟩ = some (.int .i64 a9) ∧ w'.cell? ⟨w4.heap.size, 10, none⟩ = some (.int .i64 a10) ∧ w'.cell? ⟨w4.heap.size, 11, none⟩ = some (.int .u64 a11) ∧ w'.cell? ⟨w4.heap.size + 1, 0, none⟩ = some (.slice B O.length cb) ∧ w'.cell? ⟨w4.heap.size + 1, 1, none⟩ = some (.int .i64 a1) ∧ w'.cell? ⟨w4.heap.size + 1, 2, none⟩ = some (.int .i64 a2) ∧ w'.cell? ⟨w4.heap.size + 1, 3, none⟩ = some (.int .i64 a3) ∧ w'.cell? ⟨w4.heap.size + 1, 4, none⟩ = some (.int .i64 a4) ∧ w'.cell? ⟨w4.heap.size + 1, 5, none⟩ = some (.int .i64 a5) ∧ w'.cell? ⟨w4.heap.size + 1, 6, none⟩ = some (.int .i64 a6) ∧ w'.cell? ⟨w4.heap.size + 1, 7, none⟩ = some (.int .i64 a7) ∧ w'.cell? ⟨w4.heap.size + 1, 8, none⟩ = some (.int .i64 a8) ∧ w'.cell? ⟨w4.heap.size + 1, 9, none⟩ = some (.int .i64 a9) ∧ w'.cell? ⟨w4.heap.size + 1, 10, none⟩ = some (.int .i64 a10) ∧ w'.cell? ⟨w4.heap.size + 1, 11, none⟩ = some (.int .u64 a11)) (first | exact c5 | exact c5' | exact c6 | exact c7) (first
    | (go_at_call 12; (with_reducible refine (script_a D5.out.drew M5.out.drew HS.out).mono ?_); rintro e w6 ⟨LA, lc, rfl, hR6, hD6, hk6⟩; have c6 := cells24 (kb_blk hk6 X5.out (Nat.lt_of_lt_of_le D5.out.la hP4)) (kb_blk hk6 Y5.out (Nat.lt_succ_of_lt (Nat.lt_of_lt_of_le D5.out.la hP4))); have D6 := Lib.hid hD6; have R6 := Lib.hid hR6; have X6 := Lib.hid (kb_blk hk6 X5.out (Nat.lt_of_lt_of_le D5.out.la hP4)); have Y6 := Lib.hid (kb_blk hk6 Y5.out (Nat.lt_succ_of_lt (Nat.lt_of_lt_of_le D5.out.la hP4))); have M6 := Lib.hid (M5.out.drew.keep hk6 D5.out.la); have N6 := Lib.hid (N5.out.drew.keep hk6 D5.out.la); unfold Cells24 at c6; clear hR6 hD6 hk6)
    | (go_at_call 12; (with_reducible refine (script_b D6.out N6.out HS.out).mono ?_); rintro e w7 ⟨LB, lb, rfl, hR7, hD7, hk7⟩; have c7 := cells24 (kb_blk0 hk7 X6.out (Nat.lt_of_lt_of_le D6.out.lb hP4)) (kb_blk0 hk7 Y6.out (Nat.lt_succ_of_lt (Nat.lt_of_lt_of_le D6.out.lb hP4))); have D7 := Lib.hid hD7; have R7 := Lib.hid hR7; have Q7 := Lib.hid (R6.out.keep hk7 D6.out.lb); have X7 := Lib.hid (kb_blk0 hk7 X6.out (Nat.lt_of_lt_of_le D6.out.lb hP4)); have Y7 := Lib.hid (kb_blk0 hk7 Y6.out (Nat.lt_succ_of_lt (Nat.lt_of_lt_of_le D6.out.lb hP4))); have M7 := Lib.hid (M6.out.keep hk7 D6.out.lb); have N7 := Lib.hid (N6.out.keep hk7 D6.out.lb); unfold Cells24 at c7; clear hR7 hD7 hk7)
    | fail)
  have hLi : (((L.length : Nat) : Int) == 1 + (m : Int)) = true := by rw [HL.out]; simp
  have hLp : (0 : Int) < (L.length : Int) := by have := HL.out; omega
  go_wp2_with fail
  refine (muleteerlaw40_awake.calls true _ awake_tells).mono ?_
  rintro e w8 ⟨rfl, hb8⟩
  have X8 := Lib.hid (blk_below X7.out hb8)
  have Y8 := Lib.hid (blk_below Y7.out hb8)
  have M8 := Lib.hid (M7.out.below hb8)
  have N8 := Lib.hid (N7.out.below hb8)
  have Q8 := Lib.hid (Q7.out.below hb8)
  have R8 := Lib.hid (R7.out.below hb8)
  have F8 := Lib.hid (below_step D7.out.f hb8)
  clear hb8 c7 X7 Y7 M7 N7 Q7 R7 D7
  have c8 := cells24 X8.out Y8.out
  unfold Cells24 at c8
  obtain ⟨u0, u1, u2, u3, u4, u5, u6, u7, u8, u9, u10, u11, v0, v1, v2, v3, v4, v5, v6, v7, v8, v9, v10, v11⟩ := c8
  go_wp2_with fail
  refine (muleteerref07_Same.calls 10 A c O a1 a2 a3 a4 a5 a6 a7 a8 a9 a10 a11 B cb O a1 a2 a3 a4 a5 a6 a7 a8 a9 a10 a11 true _ M8.out.reads.2 M8.out.reads.1 N8.out.reads.2 N8.out.reads.1 (same07 HM.out.1.2 _ _ _ _ _ _ _ _ _ _ _)).mono ?_
  rintro e w9 ⟨rfl, hb9⟩
  have Q9 := Lib.hid (Q8.out.below hb9)
  have R9 := Lib.hid (R8.out.below hb9)
  have F9 := Lib.hid (below_step F8.out hb9)
  clear hb9 u0 u1 u2 u3 u4 u5 u6 u7 u8 u9 u10 u11 v0 v1 v2 v3 v4 v5 v6 v7 v8 v9 v10 v11 M8 N8 Q8 R8 F8 X8 Y8
  go_wp2_with fail
  refine (muleteerref15_Same.calls 1200 LA lc L LB lb L true _ Q9.out.reads.2 Q9.out.reads.1 R9.out.reads.2 R9.out.reads.1 (same15 L (by have := HL.out; omega) 1200 (by have := HL.out; omega))).mono ?_
  rintro e w10 ⟨rfl, ⟨dr, rfl⟩⟩
  have Q10 := Lib.hid (Q9.out.below (pw_below_drewN (Below.refl _ _) dr))
  obtain ⟨g, rfl, z0, z1, z2, z3, z4, z5, z6, z7⟩ := first_cells Q10.out HZ.out
  clear Q10 Q9 R9
  go_wp2
  go_ret
  exact ⟨rfl, pw_below_drewN F9.out dr⟩
theorem DiceAlike (a0 : Int) (a1 : Int) (w : World) (w0 : (Lit.int .u64 a0).wf = true) (w1 : (Lit.int .u8 a1).wf = true) :
    Calls Try.prog 4 #[.int .u64 a0, .int .u8 a1] w fun e w' => e = .returned (.bool true) ∧ Below w.heap.size w w' := by
  have h : 0 ≤ a1 ∧ a1 < 256 := by
    have hmin : IntKind.u8.min = 0 := rfl
    have hmax : IntKind.u8.max = 255 := rfl
    simp only [Lit.wf, Bool.and_eq_true, decide_eq_true_eq] at w1
    omega
  obtain ⟨n, rfl⟩ := Int.eq_ofNat_of_zero_le h.1
  exact alike_any a0 n w (by omega)

end Go.Proofs.Ytlfminnncfgbfaa.Pure
