/- Digits read are the bytes they were made of, and the other way about. -/
import Derived.Test.YtndfpidilodmgaaShaY
set_option linter.unusedSimpArgs false
set_option linter.unusedVariables false
namespace Go.Proofs.Ytndfpidilodmgaa.Hand
open Go.RowKit Go.Proofs.YtndfpidilodmgaaW.PrintWords Go.Proofs.YtndfpidilodmgaaW.PrintLast
def VL (t : ByteArray) (m : Nat) : Int := bits .or .u8 (bits .or .u8 (0 * 16 % 256) (kx (bt t ((2 * m : Nat) : Int))) * 16 % 256) (kx (bt t ((2 * m + 1 : Nat) : Int)))
theorem map_getD0 (f : Nat → Int) (j : Nat) (hj : j < 32) : ((List.range j).map f ++ List.replicate (32 - j) (0 : Int)).getD j 0 = 0 := by
  rw [List.getD_eq_getElem?_getD, List.getElem?_append_right (by simp)]
  simp only [List.length_map, List.length_range, Nat.sub_self]
  rw [List.getElem?_replicate, if_pos (by omega)]
  rfl
theorem map_set (f : Nat → Int) (j : Nat) (hj : j < 32) : ((List.range j).map f ++ List.replicate (32 - j) (0 : Int)).set j (f j) = (List.range (j + 1)).map f ++ List.replicate (32 - (j + 1)) 0 := by
  rw [List.set_append_right _ _ (by simp)]
  simp only [List.length_map, List.length_range, Nat.sub_self]
  rw [show 32 - j = (32 - (j + 1)) + 1 by omega, List.replicate_succ, List.set_cons_zero, List.range_succ, List.map_append, List.append_assoc]
  rfl
theorem PO_even (t : ByteArray) : ∀ j, j ≤ 32 → PO t (2 * j) = (List.range j).map (VL t) ++ List.replicate (32 - j) 0
  | 0, _ => rfl
  | j + 1, h => by
    have ih := PO_even t j (by omega)
    have h0 := map_getD0 (VL t) j (by omega)
    have hl : ((List.range j).map (VL t) ++ List.replicate (32 - j) (0 : Int)).length = 32 := by simp; omega
    rw [show 2 * (j + 1) = (2 * j + 1) + 1 by omega, PO, PO, ih, show (2 * j) / 2 = j by omega, show (2 * j + 1) / 2 = j by omega, h0, getD_set_self _ _ _ (by omega), List.set_set, ← map_set (VL t) j (by omega)]
    rfl
theorem vl_fin : ∀ x y : Fin 16, bits .or .u8 (bits .or .u8 (0 * 16 % 256) (x.val : Int) * 16 % 256) (y.val : Int) = (x.val : Int) * 16 + (y.val : Int) := by decide +kernel
theorem kx_dg : ∀ k : Fin 16, kx (bt DG (k.val : Int)) = (k.val : Int) ∧ bt DG (k.val : Int) < 256 := by decide +kernel
theorem dg_kx : ∀ a : Fin 256, 0 ≤ kx (a.val : Int) → bt DG (kx (a.val : Int)) = (a.val : Int) := by decide +kernel
theorem isx_fin : ∀ a : Fin 256, (decide (0 ≤ kx (a.val : Int))) = ((decide (48 ≤ a.val) && decide (a.val ≤ 57)) || (decide (97 ≤ a.val) && decide (a.val ≤ 102))) := by decide +kernel
theorem vl_eq (x y : Int) (hx : 0 ≤ x) (hx2 : x < 16) (hy : 0 ≤ y) (hy2 : y < 16) : bits .or .u8 (bits .or .u8 (0 * 16 % 256) x * 16 % 256) y = x * 16 + y := by
  have h := vl_fin ⟨x.toNat, by omega⟩ ⟨y.toNat, by omega⟩
  simp only [Int.toNat_of_nonneg hx, Int.toNat_of_nonneg hy] at h
  exact h
theorem bt_nums (l : List Int) (i : Nat) (hi : i < l.length) (h0 : 0 ≤ l.getD i 0) (h1 : l.getD i 0 < 256) : bt (strOfNums l) (i : Int) = l.getD i 0 := by
  have hs : (strOfNums l).size = l.length := by show (strOfNums l).data.size = _; rw [strOfNums, List.size_toArray, List.length_map]
  unfold bt
  rw [dif_pos (by rw [Int.toNat_natCast, hs]; exact hi)]
  have e : (strOfNums l)[i]'(by rw [hs]; exact hi) = UInt8.ofNat (l.getD i 0).toNat := by
    show (strOfNums l).data[i]'(by show i < (strOfNums l).size; rw [hs]; exact hi) = _
    simp only [strOfNums, List.getElem_toArray, List.getElem_map]
    rw [List.getD_eq_getElem?_getD, List.getElem?_eq_getElem hi]
    rfl
  simp only [Int.toNat_natCast]
  rw [e]
  generalize l.getD i 0 = x at h0 h1 ⊢
  have : (UInt8.ofNat x.toNat).toNat = x.toNat := by
    rw [UInt8.toNat_ofNat']
    omega
  rw [this]
  omega
theorem hexL_get (M : List Int) (j : Nat) : ∀ n, j < n → (hexL M n).getD (2 * j) 0 = bt DG (M.getD j 0 / 16) ∧ (hexL M n).getD (2 * j + 1) 0 = bt DG (M.getD j 0 % 16)
  | 0, h => by omega
  | n + 1, h => by
    have hl := hexL_len M n
    rw [hexL, hx2]
    by_cases e : j = n
    · subst e
      constructor
      · rw [List.getD_eq_getElem?_getD, List.getElem?_append_right (by omega), hl, Nat.sub_self]
        rfl
      · rw [List.getD_eq_getElem?_getD, List.getElem?_append_right (by omega), hl, show 2 * j + 1 - 2 * j = 1 by omega]
        rfl
    · have ih := hexL_get M j n (by omega)
      constructor
      · rw [List.getD_eq_getElem?_getD, List.getElem?_append_left (by omega), ← List.getD_eq_getElem?_getD]
        exact ih.1
      · rw [List.getD_eq_getElem?_getD, List.getElem?_append_left (by omega), ← List.getD_eq_getElem?_getD]
        exact ih.2
def Byte (c : Int) : Prop := 0 ≤ c ∧ c < 256
theorem hex_bt (M : List Int) (hb : ∀ j, j < 32 → Byte (M.getD j 0)) (j : Nat) (hj : j < 32) : kx (bt (strOfNums (hexL M 32)) ((2 * j : Nat) : Int)) = M.getD j 0 / 16 ∧ kx (bt (strOfNums (hexL M 32)) ((2 * j + 1 : Nat) : Int)) = M.getD j 0 % 16 := by
  obtain ⟨h1, h2⟩ := hexL_get M j 32 hj
  have hl := hexL_len M 32
  obtain ⟨b0, b1⟩ := hb j hj
  generalize M.getD j 0 = c at h1 h2 b0 b1 ⊢
  have k1 := kx_dg ⟨(c / 16).toNat, by omega⟩
  have k2 := kx_dg ⟨(c % 16).toNat, by omega⟩
  simp only [Int.toNat_of_nonneg (show 0 ≤ c / 16 by omega), Int.toNat_of_nonneg (show 0 ≤ c % 16 by omega)] at k1 k2
  have r1 := bt_range DG (c / 16)
  have r2 := bt_range DG (c % 16)
  rw [bt_nums _ _ (by omega) (by rw [h1]; exact r1.1) (by rw [h1]; omega), bt_nums _ _ (by omega) (by rw [h2]; exact r2.1) (by rw [h2]; omega), h1, h2]
  exact ⟨k1.1, k2.1⟩
theorem po_hex (M : List Int) (hM : M.length = 32) (hb : ∀ j, j < 32 → Byte (M.getD j 0)) : PO (strOfNums (hexL M 32)) 64 = M := by
  have h := PO_even (strOfNums (hexL M 32)) 32 (Nat.le_refl _)
  rw [show 2 * 32 = 64 from rfl, Nat.sub_self, List.replicate_zero, List.append_nil] at h
  rw [h]
  apply List.ext_getElem
  · simp [hM]
  · intro j h1 h2
    have hj : j < 32 := by omega
    have e := hex_bt M hb j hj
    obtain ⟨b0, b1⟩ := hb j hj
    have hg : M.getD j 0 = M[j] := by rw [List.getD_eq_getElem?_getD, List.getElem?_eq_getElem h2, Option.getD_some]
    rw [hg] at e b0 b1
    simp only [List.getElem_map, List.getElem_range]
    unfold VL
    rw [e.1, e.2, vl_eq _ _ (by omega) (by omega) (by omega) (by omega)]
    omega
theorem parsed_hex (M : List Int) (hb : ∀ j, j < 32 → Byte (M.getD j 0)) : parsed (strOfNums (hexL M 32)) = true := by
  rw [parsed, hex_size, decide_eq_true (show 2 * 32 = 64 from rfl), Bool.true_and, allX, List.all_eq_true]
  intro i hi
  rw [List.mem_range] at hi
  have hj : i / 2 < 32 := by omega
  have e := hex_bt M hb (i / 2) hj
  obtain ⟨b0, b1⟩ := hb (i / 2) hj
  rcases Nat.mod_two_eq_zero_or_one i with h | h
  · rw [show i = 2 * (i / 2) by omega, e.1]
    exact decide_eq_true (by omega)
  · rw [show i = 2 * (i / 2) + 1 by omega, e.2]
    exact decide_eq_true (by omega)
theorem parsed_all (t : ByteArray) (h : parsed t = true) : t.size = 64 ∧ ∀ i : Nat, i < 64 → 0 ≤ kx (bt t (i : Int)) ∧ kx (bt t (i : Int)) < 16 ∧ bt DG (kx (bt t (i : Int))) = bt t (i : Int) := by
  rw [parsed, Bool.and_eq_true] at h
  refine ⟨of_decide_eq_true h.1, fun i hi => ?_⟩
  have h1 := of_decide_eq_true (List.all_eq_true.mp h.2 i (List.mem_range.mpr hi))
  have hr := bt_range t (i : Int)
  generalize bt t (i : Int) = c at h1 hr ⊢
  have k1 := kx_ascii ⟨c.toNat, by omega⟩
  have k2 := dg_kx ⟨c.toNat, by omega⟩
  simp only [Int.toNat_of_nonneg hr.1] at k1 k2
  exact ⟨h1, (k1 h1).2, k2 h1⟩
theorem VL_val (t : ByteArray) (h : parsed t = true) (m : Nat) (hm : m < 32) : VL t m = kx (bt t ((2 * m : Nat) : Int)) * 16 + kx (bt t ((2 * m + 1 : Nat) : Int)) := by
  obtain ⟨_, ha⟩ := parsed_all t h
  have h1 := ha (2 * m) (by omega)
  have h2 := ha (2 * m + 1) (by omega)
  unfold VL
  rw [vl_eq _ _ h1.1 h1.2.1 h2.1 h2.2.1]
theorem PO_full (t : ByteArray) : PO t 64 = (List.range 32).map (VL t) := by
  have h := PO_even t 32 (Nat.le_refl _)
  rw [show 2 * 32 = 64 from rfl, Nat.sub_self, List.replicate_zero, List.append_nil] at h
  exact h
theorem PO_get (t : ByteArray) (m : Nat) (hm : m < 32) : (PO t 64).getD m 0 = VL t m := by
  rw [PO_full, List.getD_eq_getElem?_getD, List.getElem?_map, List.getElem?_range hm]
  rfl
theorem PO_bytes (t : ByteArray) (h : parsed t = true) : ∀ c ∈ PO t 64, 0 ≤ c ∧ c < 256 := by
  intro c hc
  rw [PO_full, List.mem_map] at hc
  obtain ⟨m, hm, rfl⟩ := hc
  rw [List.mem_range] at hm
  obtain ⟨_, ha⟩ := parsed_all t h
  have h1 := ha (2 * m) (by omega)
  have h2 := ha (2 * m + 1) (by omega)
  rw [VL_val t h m hm]
  omega
theorem hexL_po (t : ByteArray) (h : parsed t = true) : ∀ n, n ≤ 32 → hexL (PO t 64) n = (List.range (2 * n)).map fun i : Nat => bt t (i : Int)
  | 0, _ => rfl
  | n + 1, hn => by
    obtain ⟨_, ha⟩ := parsed_all t h
    have h1 := ha (2 * n) (by omega)
    have h2 := ha (2 * n + 1) (by omega)
    have e1 : (kx (bt t ((2 * n : Nat) : Int)) * 16 + kx (bt t ((2 * n + 1 : Nat) : Int))) / 16 = kx (bt t ((2 * n : Nat) : Int)) := by omega
    have e2 : (kx (bt t ((2 * n : Nat) : Int)) * 16 + kx (bt t ((2 * n + 1 : Nat) : Int))) % 16 = kx (bt t ((2 * n + 1 : Nat) : Int)) := by omega
    rw [hexL, hexL_po t h n (by omega), PO_get t n (by omega), VL_val t h n (by omega), hx2, e1, e2, h1.2.2, h2.2.2, show 2 * (n + 1) = 2 * n + 1 + 1 by omega, List.range_succ, List.range_succ, List.map_append, List.map_append, List.append_assoc]
    rfl
theorem hex_po (t : ByteArray) (h : parsed t = true) : strOfNums (hexL (PO t 64) 32) = t := by
  obtain ⟨hs, _⟩ := parsed_all t h
  rw [hexL_po t h 32 (Nat.le_refl _)]
  apply ByteArray.ext
  apply Array.ext
  · rw [strOfNums, List.size_toArray, List.length_map, List.length_map, List.length_range]
    exact hs.symm
  · intro i h1 h2
    have hi : i < t.size := h2
    simp only [strOfNums, List.getElem_toArray, List.getElem_map, List.getElem_range]
    unfold bt
    rw [dif_pos (by rw [Int.toNat_natCast]; exact hi)]
    simp only [Int.toNat_natCast]
    exact UInt8.ofNat_toNat
theorem isx_eq (c : Int) (h : 0 ≤ c) (h2 : c ≤ 255) : decide (0 ≤ kx c) = ((decide (48 ≤ c) && decide (c ≤ 57)) || (decide (97 ≤ c) && decide (c ≤ 102))) := by
  have k := isx_fin ⟨c.toNat, by omega⟩
  simp only [Int.toNat_of_nonneg h] at k
  rw [k]
  have e1 : decide (48 ≤ c.toNat) = decide (48 ≤ c) := decide_eq_decide.mpr (by omega)
  have e2 : decide (c.toNat ≤ 57) = decide (c ≤ 57) := decide_eq_decide.mpr (by omega)
  have e3 : decide (97 ≤ c.toNat) = decide (97 ≤ c) := decide_eq_decide.mpr (by omega)
  have e4 : decide (c.toNat ≤ 102) = decide (c ≤ 102) := decide_eq_decide.mpr (by omega)
  rw [e1, e2, e3, e4]
end Go.Proofs.Ytndfpidilodmgaa.Hand
