/- The statement ShaDigits walked. -/
import Derived.Test.YtndfpidilodmgaaShaZ
import Derived.ChangeKeysEq
set_option linter.unusedSimpArgs false
set_option linter.unusedVariables false
namespace Go.Proofs.Ytndfpidilodmgaa.Hand
open Go.RowKit Go.Proofs.YtndfpidilodmgaaW.PrintWords Go.Proofs.YtndfpidilodmgaaW.PrintLast
theorem part_row' (cs : Array Value) (n : Nat) (v : Value) (hv : cs[n]? = some v) (w : World) : (part 5 cs n).run Try.prog w = .ok v w := by
  have hag : (isAgg 5).run Try.prog w = .ok false w := by kernel_rfl
  unfold part
  simp only [Sem.run_bind, hag, Result.andThen_ok]
  simp [hv, go_sem]
theorem eq_byte' (d : Nat) (a : Int) (w : World) : (Op.equalIn (d + 1) 5 (.int .u8 a) (.int .u8 a)).run Try.prog w = .ok true w := by
  unfold Op.equalIn
  simp only [Sem.run_bind, run_underlying Try.underlying5, Result.andThen_ok]
  simp
theorem eqItems_self' (M : List Int) (w : World) : ∀ is : List Nat, (∀ i ∈ is, i < M.length) → (Op.eqItems 9999 5 1 (rowb M) (rowb M) is).run Try.prog w = .ok true w
  | [], _ => rfl
  | i :: is, h => by
    have hi : i < M.length := h i (by simp)
    have hv : (rowb M)[i * 1]? = some (.int .u8 (M.getD i 0)) := by
      rw [Nat.mul_one, List.getD_eq_getElem?_getD, List.getElem?_eq_getElem hi]
      simp only [rowb, List.getElem?_toArray, List.getElem?_map, List.getElem?_eq_getElem hi, Option.map_some, Option.getD_some]
    have ih := eqItems_self' M w is (fun j hj => h j (by simp [hj]))
    have he : ∀ a : Int, (Op.equalIn 9999 5 (.int .u8 a) (.int .u8 a)).run Try.prog w = .ok true w := fun a => eq_byte' 9998 a w
    simp only [Op.eqItems, Sem.run_bind, part_row' _ _ _ hv, Result.andThen_ok, he]
    simpa using ih
theorem eq_self' (t : TypeId) (ht : Try.prog.underlying t = some (.array 32 5)) (M : List Int) (hM : M.length = 32) (w : World) : (Op.equalIn 10000 t (.agg (rowb M)) (.agg (rowb M))).run Try.prog w = .ok true w := by
  obtain ⟨i, hi⟩ : ∃ i, Try.prog.info? 5 = some i := by
    have h : (Try.prog.info? 5).isSome = true := by kernel_rfl
    exact Option.isSome_iff_exists.mp h
  have hc : Try.prog.cellsOf 5 = 1 := by kernel_rfl
  rw [run_equalIn_array w 9999 _ _ ht hi, hc]
  exact eqItems_self' M w _ (fun j hj => by rw [hM]; exact List.mem_range.mp hj)
set_option maxRecDepth 100000 in
set_option maxHeartbeats 3200000 in
theorem ShaDigits_walk (M : List Int) (hM : M.length = 32) (hb : ∀ c ∈ M, 0 ≤ c ∧ c < 256) (t : ByteArray) (w : World) : Calls Try.prog 6 #[.agg (rowb M), .string t] w fun e w' => e = .returned (.bool true) ∧ Below w.heap.size w w' := by
  have hi27 : (Try.prog.info? 27).map (·.size) = some 32 := by kernel_rfl
  have hi25 : (Try.prog.info? 25).map (·.size) = some 32 := by kernel_rfl
  have S1 := Lib.hid (blk_new w (.cells (rowb M) 25))
  have F1 := Lib.hid (below_alloc (Below.refl w.heap.size w) (.cells (rowb M) 25))
  have hbj : ∀ j, j < 32 → Byte (M.getD j 0) := fun j hj => by
    refine hb _ ?_
    rw [List.getD_eq_getElem?_getD, List.getElem?_eq_getElem (by omega), Option.getD_some]
    exact List.getElem_mem _
  have HX := Lib.hid (fun w => hex_walk M hM hb w)
  have HR := Lib.hid (fun w => refhex_walk M hM hb w)
  have hph := parsed_hex M hbj
  have hpo := po_hex M hM hbj
  have HP := Lib.hid (fun w => parse_walk (strOfNums (hexL M 32)) w)
  rw [hph, hpo] at HP
  simp only [if_true] at HP
  have heq : ∀ W, (Op.equalIn 10000 27 (.agg (rowb M)) (.agg (rowb M))).run Try.prog W = .ok true W := eq_self' 27 Try.underlying27 M hM
  have hszM : (rowb M).size = 32 := by rw [rowb, List.size_toArray, List.length_map, hM]
  have hone : Hid ((rowb M).all (·.oneCell') = true) := Lib.hid (rowb_one M)
  obtain ⟨H, hH⟩ : ∃ H, strOfNums (hexL M 32) = H := ⟨_, rfl⟩
  obtain ⟨RB, hRB⟩ : ∃ R, rowb M = R := ⟨_, rfl⟩
  rw [hH] at HX HR HP
  rw [hRB] at S1 F1 HX HR HP heq hszM hone ⊢
  clear hH hRB hph hpo hbj hb hM
  by_cases hbig : 200 < t.size
  · have hb2 : (200 : Int) < (t.size : Int) := by omega
    go_enter Try.func6, Try.ntmps6
    go_wp2_with (go_at_call 7; (with_reducible refine (awake_walk _).mono ?_); rintro e w2 ⟨rfl, hb⟩)
    go_ret
    exact ⟨rfl, below_step F1.out hb⟩
  · have hb2 : ¬ (200 : Int) < (t.size : Int) := by omega
    go_enter Try.func6, Try.ntmps6
    go_upto_region 3 with (fail)
    go_step
    change wpList _ _ _ _ _ (w.alloc (.cells RB 25))
    generalize w.alloc _ = w1 at S1 F1 ⊢
    obtain ⟨g, hg⟩ : ∃ g, w.heap.size = g := ⟨_, rfl⟩
    have hg0 : w.heap.size ≤ g := by omega
    rw [hg] at S1 ⊢
    refine wpList_load_row rfl 25 _ rfl g rfl 25 _ _ _ S1.out Try.underlying25 rfl (by rw [hszM]; exact hi25) ?_
    iterate 2 go_step
    (with_reducible refine (HX.out w1).mono ?_)
    rintro e w2 ⟨rfl, hb⟩
    have S2 := Lib.hid (blk_below S1.out hb)
    have F2 := Lib.hid (below_step F1.out hb)
    clear S1 F1 hb
    dsimp only
    go_upto_region 4 with (fail)
    go_step
    iterate 5 go_step
    (with_reducible refine (HP.out w2).mono ?_)
    rintro e w3 ⟨rfl, hb⟩
    have S3 := Lib.hid (blk_below S2.out hb)
    have F3 := Lib.hid (below_step F2.out hb)
    clear S2 F2 hb
    dsimp only
    go_step
    iterate 9 go_step
    refine wpList_alloc_to rfl 27 rfl (rowb Z32) 32 (by kernel_rfl) ?_
    have S4 := Lib.hid (blk_alloc S3.out (.cells (rowb Z32) 27))
    have T4 := Lib.hid (blk_new w3 (.cells (rowb Z32) 27))
    have F4 := Lib.hid (below_alloc F3.out (.cells (rowb Z32) 27))
    have hgq : g < w3.heap.size := blk_lt S3.out
    have hq0 : w.heap.size ≤ w3.heap.size := below_size F3.out
    generalize w3.alloc _ = w4 at S4 T4 F4 ⊢
    generalize w3.heap.size = q at T4 hgq hq0 ⊢
    clear S3 F3
    refine wpList_store_row rfl 27 (.tmp 6) (.tmp 21) rfl q RB rfl rfl 27 _ T4.out (by rw [hszM]; exact hi27) (by rw [hszM]; rfl) hone.out ?_
    have S5 := Lib.hid ((setRow_other w4 q g RB (by omega)).trans S4.out)
    have T5 := Lib.hid (setRow_heap w4 q _ RB 27 (0, 0) T4.out)
    have F5 := Lib.hid (below_setRow F4.out hq0 RB)
    clear S4 T4 F4
    generalize w4.setRow _ _ = w5 at S5 T5 F5 ⊢
    simp only [Act.put, List.setIfInBounds_toArray, List.set_cons_zero, List.set_cons_succ]
    go_upto_region 5 with (fail)
    go_step
    iterate 3 go_step
    refine wpList_load_row rfl 25 (.tmp 2) rfl g rfl 25 _ _ _ S5.out Try.underlying25 rfl (by rw [hszM]; exact hi25) ?_
    iterate 2 go_step
    (with_reducible refine (HR.out w5).mono ?_)
    rintro e w6 ⟨rfl, hb⟩
    have S6 := Lib.hid (blk_below S5.out hb)
    have T6 := Lib.hid (blk_below T5.out hb)
    have F6 := Lib.hid (below_step F5.out hb)
    clear S5 T5 F5 hb
    dsimp only
    repeat (first | refine wpList_load_row_wanted 27 (.tmp 6) rfl (by rfl) q rfl 27 RB (0, 0) _ T6.out Try.underlying27 rfl (by rw [hszM]; exact hi27) ?_ | refine wpList_load_row_wanted 25 (.tmp 2) rfl (by rfl) g rfl 25 RB (0, 0) _ S6.out Try.underlying25 rfl (by rw [hszM]; exact hi25) ?_ | go_step)
    have HP2 := Lib.hid (fun w => parse_walk t w)
    have hOl : (if parsed t = true then PO t 64 else Z32).length = 32 := by split; exact PO_len _ _; rfl
    obtain ⟨O, hO⟩ : ∃ O, (if parsed t = true then PO t 64 else Z32) = O := ⟨_, rfl⟩
    obtain ⟨c, hc⟩ : ∃ c : Int, (if parsed t = true then 0 else 3) = c := ⟨_, rfl⟩
    rw [hO] at HP2 hOl
    rw [hc] at HP2
    have hszY : (rowb O).size = 32 := by rw [rowb, List.size_toArray, List.length_map, hOl]
    have hone2 : Hid ((rowb O).all (·.oneCell') = true) := Lib.hid (rowb_one O)
    obtain ⟨Y, hY⟩ : ∃ Y, rowb O = Y := ⟨_, rfl⟩
    rw [hY] at HP2 hszY hone2
    have HO := Lib.hid hO
    have HC := Lib.hid hc
    have HY := Lib.hid hY
    clear hO hc hY hOl
    (with_reducible refine (HP2.out w6).mono ?_)
    rintro e w7 ⟨rfl, hb⟩
    have F7 := Lib.hid (below_step F6.out hb)
    clear S6 T6 F6 hb HP2
    dsimp only
    go_step
    iterate 9 go_step
    refine wpList_alloc_to rfl 27 rfl (rowb Z32) 32 (by kernel_rfl) ?_
    have T8 := Lib.hid (blk_new w7 (.cells (rowb Z32) 27))
    have F8 := Lib.hid (below_alloc F7.out (.cells (rowb Z32) 27))
    have hz0 : w.heap.size ≤ w7.heap.size := below_size F7.out
    generalize w7.alloc _ = w8 at T8 F8 ⊢
    generalize w7.heap.size = z at T8 hz0 ⊢
    clear F7
    refine wpList_store_row rfl 27 (.tmp 8) (.tmp 39) rfl z Y rfl rfl 27 _ T8.out (by rw [hszY]; exact hi27) (by rw [hszY]; rfl) hone2.out ?_
    have T9 := Lib.hid (setRow_heap w8 z _ Y 27 (0, 0) T8.out)
    have F9 := Lib.hid (below_setRow F8.out hz0 Y)
    clear T8 F8
    generalize w8.setRow _ _ = w9 at T9 F9 ⊢
    simp only [Act.put, List.setIfInBounds_toArray, List.set_cons_zero, List.set_cons_succ]
    obtain ⟨r0, hr0⟩ : ∃ r : Bool, decide (t.size = 64) = r := ⟨_, rfl⟩
    have hbe : ((t.size : Int) == 64) = r0 := by
      rw [← hr0]
      by_cases h : t.size = 64
      · rw [decide_eq_true h, beq_iff_eq]; omega
      · rw [decide_eq_false h, beq_eq_false_iff_ne]; omega
    have HR0 := Lib.hid hr0
    clear hr0
    go_upto_region 9 with (fail)
    clear hbe
    go_wp2_with fail
    go_loopw [11, 10] (fun v11 v10 wr => ∃ n : Nat, n ≤ t.size ∧ v11 = .int .i64 n ∧ v10 = .bool (r0 && allX t n) ∧ Hid (wr.heap[z]? = some (.cells Y 27 (0, 0))) ∧ Hid (Below w.heap.size w wr)) (fun v11 _ _ => 1000 - (intOf v11).toNat)
    case atStart => exact ⟨0, by omega, rfl, by simp [allX], T9, F9⟩
    case round =>
      clear T9 F9
      obtain ⟨n, hn, rfl, rfl, T9, F9⟩ := hrel
      by_cases h : n < t.size
      · have hlt : (n : Int) < (t.size : Int) := by omega
        have hn0 : (0 : Int) ≤ (n : Int) := by omega
        have hbr := bt_range t (n : Int)
        have hbt := bt_at t (n : Int)
        obtain ⟨b, hb⟩ : ∃ b, bt t (n : Int) = b := ⟨_, rfl⟩
        rw [hb] at hbt hbr
        have hbn : ((t[n]'h).toNat : Int) = b := by
          have := hbt (by simpa using h)
          simp only [Int.toNat_natCast] at this
          exact this
        clear hbt
        have HA : Hid (allX t (n + 1) = (allX t n && ((decide (48 ≤ b) && decide (b ≤ 57)) || (decide (97 ≤ b) && decide (b ≤ 102))))) := Lib.hid (by rw [allX_succ, hb, isx_eq b hbr.1 hbr.2])
        have hsz2 : n + 1 ≤ t.size := h
        have hmm : 1000 - ((n + 1 : Nat) : Int).toNat < 1000 - (n : Int).toNat := by omega
        obtain ⟨rr, hrr⟩ : ∃ r : Bool, (r0 && allX t n) = r := ⟨_, rfl⟩
        rw [hrr]
        have HRR : Hid ((r0 && allX t (n + 1)) = (rr && ((decide (48 ≤ b) && decide (b ≤ 57)) || (decide (97 ≤ b) && decide (b ≤ 102))))) := Lib.hid (by rw [HA.out, ← Bool.and_assoc, hrr])
        clear hb hrr hbr
        cases rr with
        | false =>
          have hv : (r0 && allX t (n + 1)) = false := by rw [HRR.out, Bool.false_and]
          have HV := Lib.hid hv
          clear hv
          go_wp2_with fail
          go_roundw
          case rel => exact ⟨n + 1, by omega, by go_num, by rw [HV.out], T9, F9⟩
          case measure => simp [intOf]; omega
        | true =>
          have hcases : (b < 48) ∨ (48 ≤ b ∧ b ≤ 57) ∨ (57 < b ∧ b < 97) ∨ (97 ≤ b ∧ b ≤ 102) ∨ 102 < b := by omega
          rcases hcases with d | ⟨d, d'⟩ | ⟨d, d'⟩ | ⟨d, d'⟩ | d
          · have x1 : ¬ 48 ≤ b := by omega
            have x2 : ¬ 97 ≤ b := by omega
            have x3 : b ≤ 57 := by omega
            have x4 : b ≤ 102 := by omega
            have HV : Hid ((r0 && allX t (n + 1)) = false) := Lib.hid (by rw [HRR.out]; simp [x1, x2])
            clear d
            go_wp2_with fail
            go_roundw
            case rel => exact ⟨n + 1, by omega, by go_num, by rw [HV.out], T9, F9⟩
            case measure => simp [intOf]; omega
          · have x2 : ¬ 97 ≤ b := by omega
            have HV : Hid ((r0 && allX t (n + 1)) = true) := Lib.hid (by rw [HRR.out]; simp [d, d'])
            go_wp2_with fail
            go_roundw
            case rel => exact ⟨n + 1, by omega, by go_num, by rw [HV.out], T9, F9⟩
            case measure => simp [intOf]; omega
          · have x1 : 48 ≤ b := by omega
            have x3 : ¬ b ≤ 57 := by omega
            have x2 : ¬ 97 ≤ b := by omega
            have HV : Hid ((r0 && allX t (n + 1)) = false) := Lib.hid (by rw [HRR.out]; simp [x1, x2, x3])
            clear d d'
            go_wp2_with fail
            go_roundw
            case rel => exact ⟨n + 1, by omega, by go_num, by rw [HV.out], T9, F9⟩
            case measure => simp [intOf]; omega
          · have x1 : 48 ≤ b := by omega
            have x3 : ¬ b ≤ 57 := by omega
            have HV : Hid ((r0 && allX t (n + 1)) = true) := Lib.hid (by rw [HRR.out]; simp [d, d'])
            go_wp2_with fail
            go_roundw
            case rel => exact ⟨n + 1, by omega, by go_num, by rw [HV.out], T9, F9⟩
            case measure => simp [intOf]; omega
          · have x1 : 48 ≤ b := by omega
            have x3 : ¬ b ≤ 57 := by omega
            have x2 : 97 ≤ b := by omega
            have x4 : ¬ b ≤ 102 := by omega
            have HV : Hid ((r0 && allX t (n + 1)) = false) := Lib.hid (by rw [HRR.out]; simp [x1, x2, x3, x4])
            clear d
            go_wp2_with fail
            go_roundw
            case rel => exact ⟨n + 1, by omega, by go_num, by rw [HV.out], T9, F9⟩
            case measure => simp [intOf]; omega
      · have hlt : ¬ (n : Int) < (t.size : Int) := by omega
        obtain rfl : n = t.size := by omega
        have hr : (r0 && allX t t.size) = parsed t := by
          rw [parsed, ← HR0.out]
          by_cases h64 : t.size = 64
          · rw [h64]
          · rw [decide_eq_false h64, Bool.false_and, Bool.false_and]
        rw [hr]
        by_cases hp : parsed t = true
        · have hO := HO.out
          have hC := HC.out
          rw [if_pos hp] at hO hC
          rw [hp]
          have hhx := fun w => hex_walk (PO t 64) (PO_len t 64) (PO_bytes t hp) w
          rw [hex_po t hp, hO, HY.out] at hhx
          have HHX := Lib.hid hhx
          subst hC
          clear hhx hO hr
          go_upto_region 15 with (fail)
          go_step
          iterate 2 go_step
          with_reducible refine (awake_walk _).mono ?_
          rintro e w10 ⟨rfl, hb⟩
          have T10 := Lib.hid (blk_below T9.out hb)
          have F10 := Lib.hid (below_step F9.out hb)
          clear T9 F9 hb
          dsimp only
          repeat (first | refine wpList_load_row_wanted 27 (.tmp 8) rfl (by rfl) z rfl 27 Y (0, 0) _ T10.out Try.underlying27 rfl (by rw [hszY]; exact hi27) ?_ | go_step)
          (with_reducible refine (HHX.out w10).mono ?_)
          rintro e w11 ⟨rfl, hb⟩
          have F11 := Lib.hid (below_step F10.out hb)
          clear T10 F10 hb
          dsimp only
          go_step
          go_wp2
          go_ret
          exact ⟨rfl, by first | exact F11.out | (rw [← hg]; exact F11.out)⟩
        · have hpf : parsed t = false := Bool.eq_false_iff.mpr hp
          have hO := HO.out
          have hC := HC.out
          rw [if_neg hp] at hO hC
          rw [hpf]
          have heq2 : ∀ W, (Op.equalIn 10000 27 (.agg Y) (.agg #[.int .u8 0, .int .u8 0, .int .u8 0, .int .u8 0, .int .u8 0, .int .u8 0, .int .u8 0, .int .u8 0, .int .u8 0, .int .u8 0, .int .u8 0, .int .u8 0, .int .u8 0, .int .u8 0, .int .u8 0, .int .u8 0, .int .u8 0, .int .u8 0, .int .u8 0, .int .u8 0, .int .u8 0, .int .u8 0, .int .u8 0, .int .u8 0, .int .u8 0, .int .u8 0, .int .u8 0, .int .u8 0, .int .u8 0, .int .u8 0, .int .u8 0, .int .u8 0])).run Try.prog W = .ok true W := fun W => by rw [← HY.out, ← hO]; exact eq_self' 27 Try.underlying27 Z32 rfl W
          subst hC
          clear hO hr
          go_upto_region 14 with (fail)
          go_step
          iterate 2 go_step
          with_reducible refine (awake_walk _).mono ?_
          rintro e w10 ⟨rfl, hb⟩
          have T10 := Lib.hid (blk_below T9.out hb)
          have F10 := Lib.hid (below_step F9.out hb)
          clear T9 F9 hb
          dsimp only
          repeat (first | refine wpList_load_row_wanted 27 (.tmp 8) rfl (by rfl) z rfl 27 Y (0, 0) _ T10.out Try.underlying27 rfl (by rw [hszY]; exact hi27) ?_ | go_step)
          go_wp2
          go_ret
          exact ⟨rfl, by first | exact F10.out | (rw [← hg]; exact F10.out)⟩
end Go.Proofs.Ytndfpidilodmgaa.Hand
