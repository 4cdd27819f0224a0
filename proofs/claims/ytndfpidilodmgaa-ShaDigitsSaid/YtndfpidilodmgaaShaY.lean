/- What Hex of the document returns. -/
import Derived.Test.YtndfpidilodmgaaShaX
set_option linter.unusedSimpArgs false
set_option linter.unusedVariables false
namespace Go.Proofs.Ytndfpidilodmgaa.Hand
open Go.RowKit Go.Proofs.YtndfpidilodmgaaW.PrintWords Go.Proofs.YtndfpidilodmgaaW.PrintLast
theorem dg_one : ∀ k : Fin 16, (DG.extract k.val (k.val + 1)).data = (strOfNums [bt DG (k.val : Int)]).data := by decide +kernel
theorem dg_ext (k : Nat) (h : k < 16) : DG.extract k (k + 1) = strOfNums [bt DG (k : Int)] := ByteArray.ext (dg_one ⟨k, h⟩)
theorem hex_step (M : List Int) (i C : Nat) (h : M.getD i 0 = (C : Int)) (hC : C < 256) : (strOfNums (hexL M i) ++ DG.extract (C / 16) (C / 16 + 1)) ++ DG.extract (C % 16) (C % 16 + 1) = strOfNums (hexL M (i + 1)) := by
  rw [dg_ext _ (by omega), dg_ext _ (by omega), strOfNums_append, strOfNums_append, hexL, hx2, h, List.append_assoc]
  rfl
theorem hex_size (M : List Int) (i : Nat) : (strOfNums (hexL M i)).size = 2 * i := by
  show (strOfNums (hexL M i)).data.size = _
  rw [strOfNums, List.size_toArray, List.length_map, hexL_len]
set_option maxRecDepth 100000 in
set_option maxHeartbeats 1600000 in
theorem refhex_walk (M : List Int) (hM : M.length = 32) (hb : ∀ c ∈ M, 0 ≤ c ∧ c < 256) (w : World) : Calls Try.prog 18 #[.agg (rowb M)] w fun e w' => e = .returned (.string (strOfNums (hexL M 32))) ∧ Below w.heap.size w w' := by
  have HB : Hid (∀ i, i < 32 → ∃ C : Nat, M.getD i 0 = (C : Int) ∧ C < 256) := Lib.hid (fun i hi => by
    have h := hb (M.getD i 0) (by
      rw [List.getD_eq_getElem?_getD, List.getElem?_eq_getElem (by omega), Option.getD_some]
      exact List.getElem_mem _)
    exact ⟨(M.getD i 0).toNat, by omega, by omega⟩)
  have S1 := Lib.hid (blk_new w (.cells (rowb M) 25))
  have F1 := Lib.hid (below_alloc (Below.refl w.heap.size w) (.cells (rowb M) 25))
  have HM := Lib.hid hM
  obtain ⟨RB, hRB⟩ : ∃ R, rowb M = R := ⟨_, rfl⟩
  rw [hRB] at S1 F1 ⊢
  have HRB := Lib.hid hRB
  clear hRB hb hM
  go_enter Try.func18, Try.ntmps18
  go_upto_region 3 with (fail)
  have hD : (⟨#[48, 49, 50, 51, 52, 53, 54, 55, 56, 57, 97, 98, 99, 100, 101, 102]⟩ : ByteArray) = DG := rfl
  rw [hD]
  clear hD
  have hds : (DG.size : Int) = 16 := rfl
  have hdn : DG.size = 16 := rfl
  obtain ⟨D, hDG⟩ : ∃ D, DG = D := ⟨_, rfl⟩
  rw [hDG] at hds hdn ⊢
  have HDG := Lib.hid hDG
  clear hDG
  generalize w.alloc _ = w1 at S1 F1 ⊢
  obtain ⟨g, hg⟩ : ∃ g, w.heap.size = g := ⟨_, rfl⟩
  rw [hg] at S1 ⊢
  go_wp2_with fail
  go_loopw [5, 3] (fun v5 v3 wr => ∃ n : Nat, n ≤ 32 ∧ v5 = .int .i64 n ∧ v3 = .string (strOfNums (hexL M n)) ∧ Hid (wr.heap[g]? = some (.cells RB 25 (0, 0))) ∧ Hid (Below w.heap.size w wr)) (fun v5 _ _ => 32 - (intOf v5).toNat)
  case atStart => exact ⟨0, by omega, rfl, rfl, S1, F1⟩
  case round =>
    clear S1 F1
    obtain ⟨n, hn, rfl, rfl, S1, F1⟩ := hrel
    by_cases h : n < 32
    · have hlt : (n : Int) < 32 := by omega
      have hn0 : (0 : Int) ≤ (n : Int) := by omega
      obtain ⟨C, hC, hC2⟩ := HB.out n h
      have kc : wr.cell? ⟨g, n, none⟩ = some (.int .u8 (C : Int)) := by
        have h1 := S1.out
        rw [← HRB.out] at h1
        rw [← hC]
        exact rowb_get h1 n (by rw [HM.out]; exact h)
      have TT := hex_step M n C hC hC2
      rw [HDG.out] at TT
      have T := Lib.hid TT
      have hss := hex_size M n
      obtain ⟨S, hS⟩ : ∃ S, strOfNums (hexL M n) = S := ⟨_, rfl⟩
      rw [hS] at T hss ⊢
      clear TT hS hC
      have hC0 : (0 : Int) ≤ (C : Int) := by omega
      have q1 : (C : Int) / 16 < 16 := by omega
      have q0 : (0 : Int) ≤ (C : Int) / 16 := by omega
      have r1 : (C : Int) % 16 < 16 := by omega
      have r0 : (0 : Int) ≤ (C : Int) % 16 := by omega
      have q2 : C / 16 + 1 ≤ D.size := by omega
      have r2 : C % 16 + 1 ≤ D.size := by omega
      have z1 : (D.extract (C / 16) (C / 16 + 1)).size = 1 := by rw [ByteArray.size_extract]; omega
      have z2 : (D.extract (C % 16) (C % 16 + 1)).size = 1 := by rw [ByteArray.size_extract]; omega
      have z3 : S.size + 1 ≤ 9223372036854775807 := by omega
      have z4 : S.size + 1 + 1 ≤ 9223372036854775807 := by omega
      have z5 : (S ++ D.extract (C / 16) (C / 16 + 1)).size = S.size + 1 := by rw [ByteArray.size_append, z1]
      have HSS := Lib.hid hss
      clear hss
      go_upto_region 8 with (fail)
      go_quiet (fail)
      rw [T.out]
      have dN := pw_below_drewN (Below.refl wr.heap.size wr) nq
      have S2 := Lib.hid (blk_below S1.out dN)
      have F2 := Lib.hid (below_step F1.out dN)
      clear S1 F1 dN q0 q1 r0 r1 q2 r2 z1 z2 z3 z4 z5 hds hdn kc
      generalize wr.drewN nq = w9 at S2 F2 ⊢
      go_wp2_with fail
      go_roundw
      case rel => exact ⟨n + 1, by omega, by go_num, rfl, S2, F2⟩
      case measure => simp [intOf]; omega
    · have hlt : ¬ (n : Int) < 32 := by omega
      obtain rfl : n = 32 := by omega
      go_wp2
      go_ret
      exact ⟨rfl, by first | exact F1.out | (rw [← hg]; exact F1.out)⟩
end Go.Proofs.Ytndfpidilodmgaa.Hand
