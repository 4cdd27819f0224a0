import Derived.Test.YtgbdkhdilnogoaaHandToken
namespace Go.Proofs.Ytgbdkhdilnogoaa.Hand
open Go.RowKit Go.Proofs.YtgbdkhdilnogoaaW.PrintWords Go.Proofs.YtgbdkhdilnogoaaW.PrintLast
/-- The reasons from a place up. -/
def CH (P O : List Int) : Nat → Int → List Int
  | 0, _ => []
  | k + 1, a => if a < 0 then [] else O.getD a.toNat 0 :: CH P O k (P.getD a.toNat 0)
set_option maxRecDepth 100000 in
set_option maxHeartbeats 1600000 in
theorem refreason_walk (P O : List Int) (n f gp go cp co : Nat) (w : World) (at0 : Int) (hn : n ≤ 1000) (ha : -1 ≤ at0) (ha2 : at0 < n)
    (hf : w.heap[f]? = some (.cells #[.slice (some ⟨gp, 0, none⟩) n cp, .slice (some ⟨go, 0, none⟩) n co] 32 (0, 0)))
    (hp : ∀ j, j < n → w.cell? ⟨gp, j, none⟩ = some (.int .i64 (P.getD j 0))) (ho : ∀ j, j < n → w.cell? ⟨go, j, none⟩ = some (.int .i64 (O.getD j 0)))
    (hpar : ∀ j, j < n → -1 ≤ P.getD j 0 ∧ P.getD j 0 < j) :
    Calls Try.prog 8 #[.pointer (some ⟨f, 0, none⟩), .int .i64 at0] w fun e w' => e = .returned (.int .i64 (firstR (CH P O n at0))) ∧ w' = w := by
  obtain ⟨R, hR⟩ : ∃ R, firstR (CH P O n at0) = R := ⟨_, rfl⟩
  rw [hR]
  have HR := Lib.hid hR
  have HF := Lib.hid hf
  have HP := Lib.hid hp
  have HO := Lib.hid ho
  have HPAR := Lib.hid hpar
  have k0 : w.cell? ⟨f, 0, none⟩ = some (.slice (some ⟨gp, 0, none⟩) n cp) := blk_cell hf 0
  have k1 : w.cell? ⟨f, 1, none⟩ = some (.slice (some ⟨go, 0, none⟩) n co) := blk_cell hf 1
  clear hR hf hp ho hpar
  go_enter Try.func8, Try.ntmps8
  go_wp2_with fail
  go_loopw [5, 1] (fun v5 v1 wr => ∃ (i k : Nat) (a : Int), i + k = n ∧ v5 = .int .i64 i ∧ v1 = .int .i64 a ∧ -1 ≤ a ∧ a < k ∧ Hid (firstR (CH P O k a) = R) ∧ wr = w) (fun v5 _ _ => 2000 - (intOf v5).toNat)
  case atStart => exact ⟨0, n, at0, by omega, rfl, rfl, ha, ha2, HR, rfl⟩
  case round =>
    obtain ⟨i, k, a, hik, rfl, rfl, h0, h1, HRa, rfl⟩ := hrel
    have hle : (i : Int) ≤ (n : Int) := by omega
    by_cases hneg : a < 0
    · have hz : R = 0 := by
        rw [← HRa.out]
        cases k with
        | zero => rfl
        | succ k => rw [CH, if_pos hneg]; rfl
      subst hz
      clear hik
      go_wp2
      go_ret
      exact ⟨rfl, rfl⟩
    · obtain ⟨A, rfl⟩ : ∃ A : Nat, a = (A : Int) := ⟨a.toNat, by omega⟩
      have hA : A < n := by omega
      have hAI : (A : Int) < (n : Int) := by omega
      have kp := HP.out A hA
      have ko := HO.out A hA
      have hpar := HPAR.out A hA
      obtain ⟨k', rfl⟩ : ∃ k', k = k' + 1 := ⟨k - 1, by omega⟩
      have hCH : CH P O (k' + 1) (A : Int) = O.getD A 0 :: CH P O k' (P.getD A 0) := by rw [CH, if_neg hneg, Int.toNat_natCast]
      have HC := Lib.hid hCH
      clear hCH
      obtain ⟨x, hx⟩ : ∃ x, O.getD A 0 = x := ⟨_, rfl⟩
      obtain ⟨y, hy⟩ : ∃ y, P.getD A 0 = y := ⟨_, rfl⟩
      rw [hx] at ko HC
      rw [hy] at kp HC hpar
      clear hx hy
      by_cases hx0 : x = 0
      · subst hx0
        have HR2 : Hid (firstR (CH P O k' y) = R) := Lib.hid (by rw [← HRa.out, HC.out]; rfl)
        have p0 := hpar.1
        have p1 := hpar.2
        have hik2 : (i + 1) + k' = n := by omega
        have h1' : y < k' := by omega
        have HIK := Lib.hid hik2
        clear hpar hik hik2
        go_wp2_with fail
        go_roundw
        case rel => exact ⟨i + 1, k', y, HIK.out, by go_num, rfl, p0, h1', HR2, by first | rfl | trivial⟩
        case measure => have := HIK.out; simp [intOf]; omega
      · have hRx : R = x := by rw [← HRa.out, HC.out, firstR, if_neg hx0]
        subst hRx
        clear hik hpar
        go_wp2
        go_ret
        exact ⟨rfl, rfl⟩
set_option maxRecDepth 100000 in
set_option maxHeartbeats 1600000 in
theorem refdepth_walk (P O : List Int) (n f gp go cp co : Nat) (w : World) (at0 : Int) (hn : n ≤ 1000) (ha : 0 ≤ at0) (ha2 : at0 < n)
    (hf : w.heap[f]? = some (.cells #[.slice (some ⟨gp, 0, none⟩) n cp, .slice (some ⟨go, 0, none⟩) n co] 32 (0, 0)))
    (hp : ∀ j, j < n → w.cell? ⟨gp, j, none⟩ = some (.int .i64 (P.getD j 0)))
    (hpar : ∀ j, j < n → -1 ≤ P.getD j 0 ∧ P.getD j 0 < j) :
    Calls Try.prog 12 #[.pointer (some ⟨f, 0, none⟩), .int .i64 at0] w fun e w' => e = .returned (.int .i64 (((CH P O n at0).length - 1 : Nat) : Int)) ∧ w' = w := by
  obtain ⟨R, hR⟩ : ∃ R, (CH P O n at0).length = R := ⟨_, rfl⟩
  rw [hR]
  have HR : Hid (0 + (CH P O n at0).length = R) := Lib.hid (by omega)
  have HP := Lib.hid hp
  have HPAR := Lib.hid hpar
  have k0 : w.cell? ⟨f, 0, none⟩ = some (.slice (some ⟨gp, 0, none⟩) n cp) := blk_cell hf 0
  clear hR hf hp hpar
  go_enter Try.func12, Try.ntmps12
  go_wp2_with fail
  go_loopw [6, 1, 5] (fun v6 v1 v5 wr => ∃ (i k A : Nat), i + k = n ∧ v6 = .int .i64 i ∧ v1 = .int .i64 A ∧ v5 = .int .i64 i ∧ A < k ∧ Hid (i + (CH P O k (A : Int)).length = R) ∧ wr = w) (fun v6 _ _ _ => 2000 - (intOf v6).toNat)
  case atStart => exact ⟨0, n, at0.toNat, by omega, rfl, by rw [Int.toNat_of_nonneg ha], rfl, by omega, by rw [Int.toNat_of_nonneg ha]; exact HR, rfl⟩
  case round =>
    obtain ⟨i, k, A, hik, rfl, rfl, rfl, h1, HRa, rfl⟩ := hrel
    have hle : (i : Int) ≤ (n : Int) := by omega
    have hA : A < n := by omega
    have hAI : (A : Int) < (n : Int) := by omega
    have hA0 : (0 : Int) ≤ (A : Int) := by omega
    have kp := HP.out A hA
    have hpar := HPAR.out A hA
    obtain ⟨k', rfl⟩ : ∃ k', k = k' + 1 := ⟨k - 1, by omega⟩
    have hCH : (CH P O (k' + 1) (A : Int)).length = (CH P O k' (P.getD A 0)).length + 1 := by rw [CH, if_neg (by omega), Int.toNat_natCast, List.length_cons]
    have HC := Lib.hid hCH
    clear hCH
    obtain ⟨y, hy⟩ : ∃ y, P.getD A 0 = y := ⟨_, rfl⟩
    rw [hy] at kp HC hpar
    clear hy
    by_cases hy0 : 0 ≤ y
    · obtain ⟨Y, rfl⟩ : ∃ Y : Nat, y = (Y : Int) := ⟨y.toNat, by omega⟩
      have HR2 : Hid (i + 1 + (CH P O k' (Y : Int)).length = R) := Lib.hid (by have := HRa.out; rw [HC.out] at this; omega)
      have hik2 : (i + 1) + k' = n := by omega
      have h1' : Y < k' := by omega
      have HIK := Lib.hid hik2
      clear hpar hik hik2
      go_wp2_with fail
      go_roundw
      case rel => exact ⟨i + 1, k', Y, HIK.out, by go_num, rfl, by go_num, h1', HR2, by first | rfl | trivial⟩
      case measure => have := HIK.out; simp [intOf]; omega
    · have hl : (CH P O k' y).length = 0 := by
        cases k' with
        | zero => rfl
        | succ k' => rw [CH, if_pos (by omega)]; rfl
      have hRi : R - 1 = i := by have := HRa.out; rw [HC.out, hl] at this; omega
      have HRI := Lib.hid hRi
      clear hik hpar hRi hl
      go_wp2
      go_ret
      exact ⟨congrArg (fun z : Nat => Ending.returned (.int .i64 (z : Int))) HRI.out.symm, rfl⟩
end Go.Proofs.Ytgbdkhdilnogoaa.Hand
