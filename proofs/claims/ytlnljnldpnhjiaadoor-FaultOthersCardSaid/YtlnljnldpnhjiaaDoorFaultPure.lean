/- What the document's functions of layer 8 answer, in plain words; the page's example. -/
import Derived.Test.YtlnljnldpnhjiaaDoorPFaultKeepsx1
import Derived.Test.YtlnljnldpnhjiaaDoorFault
namespace Go.Proofs.YtlnljnldpnhjiaaDoor.Hand
open Go.RowKit Go.Proofs.YtlnljnldpnhjiaaDoor.PFaultKeeps Go.Proofs.YtlnljnldpnhjiaaDoorW.PrintWords Go.Proofs.YtlnljnldpnhjiaaDoorW.PrintLast
set_option linter.unusedVariables false
set_option linter.unusedSimpArgs false
theorem rd_at (l : List Int) (j : Nat) (h : j < l.length) : rd l (j : Int) = l[j] := by
  rw [rd, Int.toNat_natCast, List.getD_eq_getElem?_getD, List.getElem?_eq_getElem h]; rfl
theorem wrap_small (x : Int) (h0 : -100000 ≤ x) (h1 : x ≤ 100000) : wrap64 x = x := by unfold wrap64; omega
theorem turned_eq (l : List Int) (hl : l.length ≤ 1000) : ∀ (j k : Nat) (acc : List Int), j ≤ l.length → j + 1 ≤ k → acc.length + j ≤ 2000 → muleteerref08_Turned.l0 k l acc ((j : Int) - 1) = some (acc ++ (l.take j).reverse)
  | 0, k + 1, acc, hj, hk, ha => by
    rw [muleteerref08_Turned.l0, if_neg (by omega)]
    simp
  | j + 1, k + 1, acc, hj, hk, ha => by
    have e1 : ((j + 1 : Nat) : Int) - 1 = (j : Int) := by omega
    rw [e1, muleteerref08_Turned.l0, if_pos (by omega), if_pos (by omega), if_pos (by omega), if_pos (by omega), rd_at l j (by omega), wrap_small _ (by omega) (by omega),
      turned_eq l hl j k _ (by omega) (by omega) (by rw [List.length_append, List.length_singleton]; omega), List.take_succ_eq_append_getElem (by omega), List.reverse_append, List.append_assoc]
    rfl
theorem turned_all (l : List Int) (hl : l.length ≤ 1000) : muleteerref08_Turned.f (l.length + 1) l = some l.reverse := by
  rw [muleteerref08_Turned.f, wrap_small _ (by omega) (by omega), turned_eq l hl l.length (l.length + 1) [] (Nat.le_refl _) (Nat.le_refl _) (by simp; omega), List.take_length, List.nil_append]
theorem same_eq (l : List Int) (hl : l.length ≤ 1000) : ∀ (m k j : Nat), j + m = l.length → m + 1 ≤ k → muleteerlaw08_same.l0 k l l (j : Int) = some true
  | 0, k + 1, j, hj, hk => by rw [muleteerlaw08_same.l0, if_neg (by omega)]
  | m + 1, k + 1, j, hj, hk => by
    rw [muleteerlaw08_same.l0, if_pos (by omega), if_pos (by omega), if_pos (by omega), if_pos rfl, wrap_small _ (by omega) (by omega)]
    exact same_eq l hl m k (j + 1) (by omega) (by omega)
theorem same_all (l : List Int) (hl : l.length ≤ 1000) : muleteerlaw08_same.f (l.length + 1) l l = some true := by
  rw [muleteerlaw08_same.f, if_pos rfl]
  exact same_eq l hl l.length _ 0 (by omega) (Nat.le_refl _)
theorem refName_eq (p : Int) : muleteerref08_Name.f p = some (nameOf p) := by
  unfold muleteerref08_Name.f nameOf
  by_cases h0 : p < 0
  · simp only [Option.bind_some, if_pos h0, if_neg (show ¬(0 ≤ p ∧ p ≤ 9) by omega)]
  · by_cases h9 : p > 9
    · simp only [Option.bind_some, if_neg h0, if_pos h9, if_neg (show ¬(0 ≤ p ∧ p ≤ 9) by omega)]
    · obtain ⟨k, rfl⟩ : ∃ k : Nat, p = k := ⟨p.toNat, by omega⟩
      have hk : k < 10 := by omega
      simp only [Option.bind_some, if_neg h0, if_neg h9, if_pos (show (0 : Int) ≤ (k : Int) by omega), if_pos (show (0 ≤ (k : Int) ∧ (k : Int) ≤ 9) by omega)]
      rw [if_pos (by simp; omega)]
      match k, hk with
      | 0, _ => rfl
      | 1, _ => rfl
      | 2, _ => rfl
      | 3, _ => rfl
      | 4, _ => rfl
      | 5, _ => rfl
      | 6, _ => rfl
      | 7, _ => rfl
      | 8, _ => rfl
      | 9, _ => rfl
theorem refWord_eq (c : Int) : muleteerref08_Word.f c = some (wordOf c) := by
  unfold muleteerref08_Word.f wordOf
  by_cases h0 : c < 0
  · simp only [Option.bind_some, if_pos h0, if_neg (show ¬(0 ≤ c ∧ c < 26) by omega)]
  · by_cases h9 : c > 25
    · simp only [Option.bind_some, if_neg h0, if_pos h9, if_neg (show ¬(0 ≤ c ∧ c < 26) by omega)]
    · obtain ⟨k, rfl⟩ : ∃ k : Nat, c = k := ⟨c.toNat, by omega⟩
      have hk : k < 26 := by omega
      simp only [Option.bind_some, if_neg h0, if_neg h9, if_pos (show (0 : Int) ≤ (k : Int) by omega), if_pos (show (0 ≤ (k : Int) ∧ (k : Int) < 26) by omega)]
      rw [if_pos (by simp; omega)]
      have : ∀ k, k < 26 → rdOf ByteArray.empty wordsL (k : Int) = wordsL.getD (k : Int).toNat (⟨#[]⟩ : ByteArray) := fun k hk => by
        rw [rdOf]
        rfl
      exact congrArg some (this k (by omega))
def RT (l : List Int) (s : ByteArray) : ByteArray := l.foldl (fun s p => (nameOf p ++ (⟨#[58, 32]⟩ : ByteArray)) ++ s) s
theorem RT_eq : ∀ (l : List Int) (s : ByteArray), RT l s = pre l.reverse ++ s
  | [], s => by show s = (⟨#[]⟩ : ByteArray) ++ s; exact (ByteArray.empty_append).symm
  | p :: l, s => by
    show RT l _ = _
    rw [RT_eq l, List.reverse_cons, pre_snoc, ByteArray.append_assoc]
theorem refText_eq (l : List Int) (hl : l.length ≤ 1000) : ∀ (m k j : Nat) (s : ByteArray), j + m = l.length → m + 1 ≤ k → s.size ≤ 10 * j + 10 → muleteerref08_Text.l0 k l s (j : Int) = some (RT (l.drop j) s)
  | 0, k + 1, j, s, hj, hk, hs => by
    rw [muleteerref08_Text.l0, if_neg (by omega), List.drop_of_length_le (by omega)]
    rfl
  | m + 1, k + 1, j, s, hj, hk, hs => by
    have hjl : j < l.length := by omega
    have hz := name_size l[j]
    rw [muleteerref08_Text.l0, if_pos (by omega), if_pos (by omega), rd_at l j hjl, refName_eq, Option.bind_some, if_pos (by omega), if_pos (by omega), wrap_small _ (by omega) (by omega)]
    have := refText_eq l hl m k (j + 1) ((nameOf l[j] ++ (⟨#[58, 32]⟩ : ByteArray)) ++ s) (by omega) (by omega) (by
      rw [ByteArray.size_append, ByteArray.size_append]
      show (nameOf l[j]).size + 2 + s.size ≤ _
      omega)
    rw [show ((j : Int) + 1) = ((j + 1 : Nat) : Int) by omega, this, List.drop_eq_getElem_cons hjl]
    rfl
theorem refText_all (c : Int) (l : List Int) (hl : l.length ≤ 1000) : muleteerref08_Text.f (l.length + 1) c l = some (textOf (.code c) l.reverse) := by
  have hw := word_size c
  rw [muleteerref08_Text.f, refWord_eq, Option.bind_some]
  have := refText_eq l hl l.length (l.length + 1) 0 (wordOf c) (by omega) (Nat.le_refl _) (by omega)
  rw [show ((0 : Nat) : Int) = 0 from rfl] at this
  rw [this, List.drop_zero, RT_eq]
  rfl
/-- A list of two numbers that was just made. -/
theorem lit_C (w : World) (a b : Int) : Kd.C (Kd.int .i64) (w.alloc (.cells #[.int .i64 a, .int .i64 b] 3)) (some ⟨w.heap.size, 0, none⟩) 2 [a, b] := by
  have h := World.ownsRow_lit (base := w.heap.size) (e := 3) (size := 1) w #[.int .i64 a, .int .i64 b] 2 (Nat.le_refl _) (by decide) (by simp)
  exact (Kd.R_reads' (Kd.R_of_own (h1 := fun _ => rfl) (enc := Value.int .i64) (xs := [a, b]) (ok := fun _ => True) h (fun _ _ => trivial))).2.2
theorem awake08_walk (w : World) (hg : w.cell? ⟨0, 0, none⟩ = some (.iface 84 (.agg #[.pointer (some ⟨1, 26, none⟩)]))) :
    Calls Tryd.prog 9 #[] w fun e w' => e = .returned (.bool true) ∧ Below w.heap.size w w' := by
  have hb := below_alloc (Below.refl w.heap.size w) (.cells #[.int .i64 1, .int .i64 3] 3)
  have HO : Hid (Calls Tryd.prog 10 #[.int .i64 13, .slice (some ⟨w.heap.size, 0, none⟩) 2 2] (w.alloc (.cells #[.int .i64 1, .int .i64 3] 3)) fun e w' => ∃ E, e = .returned E ∧ EC w' (.code 13) E [3, 1] ∧ Below (w.alloc (.cells #[.int .i64 1, .int .i64 3] 3)).heap.size (w.alloc (.cells #[.int .i64 1, .int .i64 3] 3)) w') := Lib.hid (of_walk 13 (by decide) (some ⟨w.heap.size, 0, none⟩) 2 [1, 3] _ (lit_C w 1 3) (by decide))
  have HT : Hid (∀ (w1 : World) (E : Value), EC w1 (.code 13) E [3, 1] → Below w.heap.size w w1 → Calls Tryd.prog 13 #[E] w1 fun e w' => e = .returned (.string (textOf (.code 13) [3, 1])) ∧ Below w1.heap.size w1 w') := Lib.hid (fun w1 E hE hB => text_walk (.code 13) E [3, 1] (by decide) w1 ((hB.cell (cell_lt hg)).trans hg) hE)
  have ht : textOf (.code 13) [3, 1] = (⟨#[97, 99, 99, 111, 117, 110, 116, 115, 58, 32, 108, 111, 119, 58, 32, 110, 111, 110, 99, 101]⟩ : ByteArray) := by decide +kernel
  rw [ht] at HT
  have HB := Lib.hid hb
  clear ht hb hg
  go_enter Tryd.func9, Tryd.ntmps9
  go_wp2_with (first
    | (go_at_call 10; (with_reducible refine HO.out.mono ?_); rintro e w1 ⟨E, rfl, hE, hb1⟩; have HE := Lib.hid hE; have HB1 := Lib.hid (below_step HB.out hb1); clear hE hb1)
    | (go_at_call 13; (with_reducible refine (HT.out _ _ HE.out HB1.out).mono ?_); rintro e w2 ⟨rfl, hb2⟩; have HB2 := Lib.hid (below_step HB1.out hb2); clear hb2))
  go_ret
  exact ⟨rfl, HB2.out⟩
end Go.Proofs.YtlnljnldpnhjiaaDoor.Hand
