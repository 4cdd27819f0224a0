/- What Of of package sha returns, of any texts put together (up to 1,000,000 bytes). -/
import Derived.Test.YtndfpidilodmgaaShaP
set_option linter.unusedSimpArgs false
set_option linter.unusedVariables false
namespace Go.Proofs.Ytndfpidilodmgaa.Hand
open Go.RowKit Go.Proofs.YtndfpidilodmgaaW.PrintWords Go.Proofs.YtndfpidilodmgaaW.PrintLast
/-- The state behind so many blocks. -/
def ST (s : ByteArray) : Nat → List Int
  | 0 => S0
  | j + 1 => TLs (ST s j) (s.extract (64 * j) (64 * j + 64))
theorem ST_len (s : ByteArray) : ∀ j, (ST s j).length = 8
  | 0 => rfl
  | _ + 1 => TLs_len _ _
def rowb (L : List Int) : Array Value := (L.map (Value.int .u8)).toArray
theorem rowb_put {W : World} {b T : Nat} {L : List Int} (h : W.heap[b]? = some (.cells (rowb L) T (0, 0))) (i : Nat) (v : Int) : (W.setCell ⟨b, i, none⟩ (.int .u8 v)).heap[b]? = some (.cells (rowb (L.set i v)) T (0, 0)) := by
  refine blk_put h i _ ?_
  simp [rowb, List.map_set]
theorem rowb_get {W : World} {b T : Nat} {L : List Int} (h : W.heap[b]? = some (.cells (rowb L) T (0, 0))) (i : Nat) (hi : i < L.length) : W.cell? ⟨b, i, none⟩ = some (.int .u8 (L.getD i 0)) := by
  rw [cell_of_row _ _ i _ _ _ h, List.getD_eq_getElem?_getD, List.getElem?_eq_getElem hi]
  simp only [rowb, List.getElem?_toArray, List.getElem?_map, List.getElem?_eq_getElem hi, Option.map_some, Option.getD_some]
theorem rowb_one (L : List Int) : (rowb L).all (·.oneCell') = true := by
  rw [Array.all_eq_true_iff_forall_mem]
  intro v hv
  simp only [rowb, List.mem_toArray, List.mem_map] at hv
  obtain ⟨x, _, rfl⟩ := hv
  rfl
def outB (L : List Int) : Nat → List Int
  | 0 => List.replicate 32 0
  | i + 1 => (outB L i).set i (L.getD (i / 4) 0 / 2 ^ (24 - 8 * (i % 4)) % 256)
theorem outB_len (L : List Int) : ∀ i, (outB L i).length = 32
  | 0 => rfl
  | i + 1 => by rw [outB, List.length_set]; exact outB_len L i
def ofB (s : ByteArray) : List Int := outB (ST (s ++ padB s.size) ((s ++ padB s.size).size / 64)) 32
def szOf : Value → Nat
  | .string s => s.size
  | _ => 0
def Z32 : List Int := List.replicate 32 0
theorem padB_size (n : Nat) : (padB n).size = padZ n + 9 := by
  show (padB n).data.size = _
  rw [padB, strOfNums, List.size_toArray, List.length_map, padSt_len]
theorem pad_even (n : Nat) : (n + (padZ n + 9)) % 64 = 0 := by unfold padZ; omega
theorem ex_ex (A : ByteArray) (i j : Nat) (h : i + j ≤ A.size) : (A.extract i A.size).extract 0 j = A.extract i (i + j) := by
  rw [ByteArray.extract_extract]
  congr 1 <;> omega
theorem ex_rest (A : ByteArray) (i j : Nat) : (A.extract i A.size).extract j (A.extract i A.size).size = A.extract (i + j) A.size := by
  rw [ByteArray.extract_extract, ByteArray.size_extract]
  congr 1
  omega
theorem exec_load_row {P : Program} {o : Oper} {ev : Operand → Value} {w : World} (ty : TypeId) (x : Operand) (ho : o.op = .load ty x) (g : Nat) (hx : ev x = .pointer (some ⟨g, 0, none⟩)) (t : TypeId) (cs : Array Value) (fr : Nat × Nat) (d : TypeDesc)
    (hg : w.heap[g]? = some (.cells cs t fr)) (hu : P.underlying ty = some d) (hd : (match d with | .struct _ | .array _ _ => true | _ => false) = true) (hi : (P.info? ty).map (·.size) = some cs.size) : (execOp ev o).run P w = .ok (.value (.agg cs)) w := by
  unfold execOp
  simp only [ho, hx, Instr.loadAt, Instr.sureAddr, Sem.run_bind, Sem.run_pure, Result.andThen_ok, run_loadVar_row w g t ty cs fr d hg hu hd hi]
set_option maxRecDepth 100000 in
theorem of_walk (v : Value) (s : ByteArray) (w : World) (hsz : s.size ≤ 1000000) (hj : ∀ W, Below w.heap.size w W → Calls Try.prog 19 #[v, .string ⟨#[]⟩] W fun e w' => e = .returned (.string s) ∧ Below W.heap.size W w') : Calls Try.prog 9 #[v] w fun e w' => e = .returned (.agg (rowb (ofB s))) ∧ Below w.heap.size w w' := by
  obtain ⟨OUT, hOUT⟩ : ∃ L, ofB s = L := ⟨_, rfl⟩
  rw [hOUT]
  have HOUT := Lib.hid hOUT
  have HJ := Lib.hid hj
  clear hj hOUT
  have S1 := Lib.hid (blk_new w (.cells (rowb Z32) 27))
  have F1 := Lib.hid (below_alloc (Below.refl w.heap.size w) (.cells (rowb Z32) 27))
  go_enter Try.func9, Try.ntmps9
  go_upto_region 1 with (fail)
  go_step
  change wpList _ _ _ _ _ (w.alloc (.cells (rowb Z32) 27))
  generalize w.alloc _ = w1 at S1 F1 ⊢
  obtain ⟨g, hg⟩ : ∃ g, w.heap.size = g := ⟨_, rfl⟩
  have hg0 : w.heap.size ≤ g := by omega
  rw [hg] at S1 ⊢
  iterate 5 go_step
  refine (HJ.out _ F1.out).mono ?_
  rintro e w2 ⟨rfl, hb⟩
  dsimp only
  have S2 := Lib.hid (blk_below S1.out hb)
  have F2 := Lib.hid (below_step F1.out hb)
  clear S1 F1 hb
  go_upto_region 2 with (fail)
  go_step
  have hps := padB_size s.size
  have hz : padZ s.size < 64 := Nat.mod_lt _ (by decide)
  have hcat : s.size + (padB s.size).size ≤ 9223372036854775807 := by omega
  iterate 11 go_step
  with_reducible refine (pad_walk s.size (by omega) w2).mono ?_
  rintro e w3 ⟨rfl, hb⟩
  dsimp only
  have S3 := Lib.hid (blk_below S2.out hb)
  have F3 := Lib.hid (below_step F2.out hb)
  clear S2 F2 hb
  go_upto_region 3 with (fail)
  go_step
  obtain ⟨A, hA⟩ : ∃ A, s ++ padB s.size = A := ⟨_, rfl⟩
  have hAs : A.size = s.size + (padZ s.size + 9) := by rw [← hA, ByteArray.size_append, hps]
  have hev := Lib.hid (pad_even s.size)
  have HAS := Lib.hid hAs
  clear hAs hps
  rw [hA]
  iterate 2 go_step
  with_reducible refine (start_walk w3).mono ?_
  rintro e w4 ⟨rfl, hb⟩
  dsimp only
  have S4 := Lib.hid (blk_below S3.out hb)
  have F4 := Lib.hid (below_step F3.out hb)
  clear S3 F3 hb
  go_step
  refine wpList_alloc_to rfl 33 rfl (row [0, 0, 0, 0, 0, 0, 0, 0]) 8 (by kernel_rfl) ?_
  have S5 := Lib.hid (blk_alloc S4.out (.cells (row [0, 0, 0, 0, 0, 0, 0, 0]) 33))
  have T5 := Lib.hid (blk_new w4 (.cells (row [0, 0, 0, 0, 0, 0, 0, 0]) 33))
  have F5 := Lib.hid (below_alloc F4.out (.cells (row [0, 0, 0, 0, 0, 0, 0, 0]) 33))
  have hgq : g < w4.heap.size := blk_lt S4.out
  obtain ⟨q, hq⟩ : ∃ q, w4.heap.size = q := ⟨_, rfl⟩
  rw [hq] at T5 hgq ⊢
  clear S4 F4
  generalize w4.alloc _ = w5 at S5 T5 F5 ⊢
  have hq0 : w.heap.size ≤ q := by omega
  have hi8 : (Try.prog.info? 33).map (·.size) = some 8 := by kernel_rfl
  have hi32 : (Try.prog.info? 27).map (·.size) = some 32 := by kernel_rfl
  refine wpList_store_row rfl 33 _ _ rfl q (row S0) rfl rfl 33 _ T5.out hi8 rfl (row_one _) ?_
  have S6 := Lib.hid ((setRow_other w5 q g (row S0) (by omega)).trans S5.out)
  have T6 := Lib.hid (setRow_heap w5 q _ (row S0) 33 (0, 0) T5.out)
  have F6 := Lib.hid (below_setRow F5.out hq0 (row S0))
  clear S5 T5 F5
  generalize w5.setRow _ _ = w6 at S6 T6 F6 ⊢
  go_wp2_with fail
  simp only [Act.put, List.setIfInBounds_toArray, List.set_cons_zero, List.set_cons_succ]
  have e0 : A.extract (64 * 0) A.size = A := by simp
  go_loopw [3] (fun v3 wr => ∃ j : Nat, 64 * j ≤ A.size ∧ v3 = .string (A.extract (64 * j) A.size) ∧ Hid (wr.heap[q]? = some (.cells (row (ST A j)) 33 (0, 0))) ∧ Hid (wr.heap[g]? = some (.cells (rowb Z32) 27 (0, 0))) ∧ Hid (Below w.heap.size w wr)) (fun v3 _ => szOf v3)
  case atStart => exact ⟨0, by omega, by rw [e0], T6, S6, F6⟩
  case round =>
    clear S6 T6 F6
    obtain ⟨j, hj, rfl, T6, S6, F6⟩ := hrel
    have hX : (A.extract (64 * j) A.size).size = A.size - 64 * j := by rw [ByteArray.size_extract]; omega
    obtain ⟨X, hXe⟩ : ∃ X, A.extract (64 * j) A.size = X := ⟨_, rfl⟩
    have HX := Lib.hid hXe
    rw [hXe] at hX ⊢
    have HXS := Lib.hid hX
    have hAsz : A.size = A.size := rfl
    clear hXe hAsz
    by_cases h : 64 ≤ X.size
    · have hge : (64 : Int) ≤ (X.size : Int) := by omega
      have hle : 64 * j + 64 ≤ A.size := by omega
      have hs64 : (X.extract 0 64).size = 64 := by rw [ByteArray.size_extract]; omega
      clear hX
      go_upto_region 5 with (fail)
      have hlen : (ST A j).length = 8 := ST_len A j
      have TE : Hid (TLs (ST A j) (A.extract (64 * j) (64 * j + 64)) = ST A (j + 1)) := Lib.hid rfl
      obtain ⟨L, hL⟩ : ∃ L, ST A j = L := ⟨_, rfl⟩
      rw [hL] at hlen TE T6
      have hszL : (row L).size = 8 := by rw [row, List.size_toArray, List.length_map, hlen]
      have hxe := ex_ex A (64 * j) 64 (by omega)
      rw [HX.out] at hxe
      rw [← hxe] at TE
      refine start_ (n := 5) (S := fun w' => w'.heap[q]? = some (.cells (row L) 33 (0, 0))) (ds := [4]) #[false, false, false, false, false] (by kernel_rfl) rfl rfl T6.out (fun hHeld => ?_)
      have T7 : Hid (wr.drew.heap[q]? = some (.cells (row L) 33 (0, 0))) := T6
      have S7 : Hid (wr.drew.heap[g]? = some (.cells (rowb Z32) 27 (0, 0))) := S6
      have F7 := Lib.hid (below_drew1 F6.out)
      clear T6 S6 F6
      generalize wr.drew = wd at T7 S7 F7 hHeld ⊢
      refine take_ (i := 0) (N := (some 18)) (v := .agg (row L)) (a' := ?_) #[true, false, false, false, false] rfl rfl (by kernel_rfl) (fun _ _ _ h => h) (Or.inl ⟨by rfl, ?_⟩) hHeld ?_ ?_
      · intro w' s0
        exact exec_load_row 33 (.tmp 4) rfl q rfl 33 (row L) (0, 0) _ s0 Try.underlying33 rfl (by rw [hszL]; exact hi8)
      rotate_left
      · simp only [Act.put, List.setIfInBounds_toArray, List.set_cons_zero, List.set_cons_succ]
        rfl
      refine pure_ (i := 1) (N := (some 19)) (v := ?_) (a' := ?_) #[true, true, false, false, false] rfl rfl (by kernel_rfl) (fun _ _ _ h => h) (Or.inl ⟨by rfl, ?_⟩) ?_ ?_
      rotate_left
      · intro w'
        go_simp
        with_reducible rfl
      rotate_left
      · simp only [Act.put, List.setIfInBounds_toArray, List.set_cons_zero, List.set_cons_succ]
        rfl
      refine pure_ (i := 2) (N := (some 20)) (v := .string (X.extract 0 64)) (a' := ?_) #[true, true, true, false, false] rfl rfl (by kernel_rfl) (fun _ _ _ h => h) (Or.inl ⟨by rfl, ?_⟩) ?_ ?_
      · intro w'
        have h64 : 64 ≤ X.size := h
        go_simp
      rotate_left
      · simp only [Act.put, List.setIfInBounds_toArray, List.set_cons_zero, List.set_cons_succ]
        rfl
      refine one_ (i := 3) (N := (some 21)) #[true, true, true, true, false] rfl rfl (by kernel_rfl) (by decide) (fun K hK => ?_)
      refine goes_ Try.func20 (by kernel_rfl) rfl #[.agg (row L), .string (X.extract 0 64)] (by rfl) rfl rfl (by (try simp only [List.map_toArray, List.map_cons, List.map_nil]); first | done | rfl) ?_
      with_reducible refine (turn_list L hlen (X.extract 0 64) hs64 wd).mono ?_
      rintro e w8 ⟨rfl, hb⟩
      have T8 := Lib.hid (blk_below T7.out hb)
      have S8 := Lib.hid (blk_below S7.out hb)
      have F8 := Lib.hid (below_step F7.out hb)
      clear T7 S7 F7 hb
      refine ⟨_, rfl, ?_⟩
      refine hK.out _ _ T8.out (fun hHeld => ?_)
      clear hK K
      refine norm_ (a' := ?_) ?_ ?_
      rotate_left
      · show Act.put _ (some 21) _ = _
        simp only [Act.put, List.setIfInBounds_toArray, List.set_cons_zero, List.set_cons_succ]
        rfl
      have hszT : (row (TLs L (X.extract 0 64))).size = 8 := by rw [row, List.size_toArray, List.length_map, TLs_len]
      refine last_ (i := 4) (N := none) #[true, true, true, true, true] rfl rfl (by kernel_rfl) (by decide) (fun K hK => ?_)
      rw [if_pos (by rfl)]
      refine wp_store_row 33 (.tmp 4) (.tmp 21) rfl q (row (TLs L (X.extract 0 64))) ?_ ?_ 33 (row L) T8.out (by rw [hszT]; exact hi8) (by rw [hszT, hszL]) (row_one _) ?_
      · rfl
      · rfl
      have T9 := Lib.hid (setRow_heap w8 q _ (row (TLs L (X.extract 0 64))) 33 (0, 0) T8.out)
      have S9 := Lib.hid ((setRow_other w8 q g (row (TLs L (X.extract 0 64))) (by omega)).trans S8.out)
      have F9 := Lib.hid (below_setRow F8.out hq0 (row (TLs L (X.extract 0 64))))
      clear T8 S8 F8
      generalize w8.setRow _ _ = w9 at T9 S9 F9 ⊢
      rw [TE.out] at T9
      show K (Act.put _ none _) _
      refine hK.out _ _ ?_
      clear hK K
      refine norm_ (a' := ?_) ?_ ?_
      rotate_left
      · show Act.put _ none _ = _
        simp only [Act.put]
        rfl
      refine done_ (by kernel_rfl) ?_
      have hxr := ex_rest A (64 * j) 64
      rw [HX.out] at hxr
      have h64 : 64 ≤ X.size := h
      have XR := Lib.hid hxr
      clear hxr hxe
      go_wp2_with fail
      refine ⟨⟨j + 1, by omega, ?_, T9, S9, F9⟩, ?_⟩
      · rw [XR.out, show 64 * (j + 1) = 64 * j + 64 by omega]
      · show (X.extract 64 X.size).size < X.size
        rw [ByteArray.size_extract]
        omega
    · have hge : ¬ (64 : Int) ≤ (X.size : Int) := by omega
      have hja : 64 * j = A.size := by have := hev.out; have := HAS.out; omega
      have hjd : j = A.size / 64 := by omega
      have HO : Hid (outB (ST A j) 32 = OUT) := Lib.hid (by rw [← HOUT.out, ofB, hA, hjd])
      have hlen : (ST A j).length = 8 := ST_len A j
      obtain ⟨L, hL⟩ : ∃ L, ST A j = L := ⟨_, rfl⟩
      rw [hL] at hlen HO T6
      clear hL hX hja hjd
      go_upto_region 7 with (fail)
      go_step
      refine wpList_alloc_to rfl 27 rfl (rowb Z32) 32 (by kernel_rfl) ?_
      have S7 := Lib.hid (blk_alloc S6.out (.cells (rowb Z32) 27))
      have T7 := Lib.hid (blk_alloc T6.out (.cells (rowb Z32) 27))
      have O7 : Hid ((wr.alloc (.cells (rowb Z32) 27)).heap[wr.heap.size]? = some (.cells (rowb (outB L 0)) 27 (0, 0))) := Lib.hid (blk_new wr (.cells (rowb Z32) 27))
      have F7 := Lib.hid (below_alloc F6.out (.cells (rowb Z32) 27))
      have hqb : q < wr.heap.size := blk_lt T6.out
      obtain ⟨b, hb⟩ : ∃ b, wr.heap.size = b := ⟨_, rfl⟩
      rw [hb] at O7 hqb ⊢
      clear S6 T6 F6
      generalize wr.alloc _ = w7 at S7 T7 O7 F7 ⊢
      simp only [Act.put, List.setIfInBounds_toArray, List.set_cons_zero, List.set_cons_succ]
      have hb0 : w.heap.size ≤ b := by omega
      go_wp2_with fail
      go_loopw [24] (fun v24 wx => ∃ i : Nat, i ≤ 32 ∧ v24 = .int .i64 i ∧ Hid (wx.heap[b]? = some (.cells (rowb (outB L i)) 27 (0, 0))) ∧ Hid (wx.heap[q]? = some (.cells (row L) 33 (0, 0))) ∧ Hid (wx.heap[g]? = some (.cells (rowb Z32) 27 (0, 0))) ∧ Hid (Below w.heap.size w wx)) (fun v24 _ => 32 - (intOf v24).toNat)
      case atStart => exact ⟨0, by omega, rfl, O7, T7, S7, F7⟩
      case round =>
        clear O7 T7 S7 F7
        obtain ⟨i, hi, rfl, O7, T7, S7, F7⟩ := hrel
        by_cases h32 : i < 32
        · have hlt : (i : Int) < 32 := by omega
          have hi0 : (0 : Int) ≤ (i : Int) := by omega
          have kL := row_get T7.out (i / 4) (by omega)
          have bn : q ≠ b := by omega
          have bg : g ≠ b := by omega
          have hdv : Int.tdiv (i : Int) 4 = ((i / 4 : Nat) : Int) := rfl
          have hrm : Int.tmod (i : Int) 4 = ((i % 4 : Nat) : Int) := rfl
          have d0 : (0 : Int) ≤ ((i / 4 : Nat) : Int) := by omega
          have d8 : ((i / 4 : Nat) : Int) < 8 := by omega
          have kb := rowb_get O7.out i (by rw [outB_len]; exact h32)
          have kf := blk_frozen O7.out i
          have O8 : Hid ((wr.setCell ⟨b, i, none⟩ (.int .u8 (L.getD (i / 4) 0 / 2 ^ (24 - 8 * (i % 4)) % 256))).heap[b]? = some (.cells (rowb (outB L (i + 1))) 27 (0, 0))) := Lib.hid (rowb_put O7.out i _)
          have T8 : Hid ((wr.setCell ⟨b, i, none⟩ (.int .u8 (L.getD (i / 4) 0 / 2 ^ (24 - 8 * (i % 4)) % 256))).heap[q]? = some (.cells (row L) 33 (0, 0))) := Lib.hid (blk_far T7.out (p := ⟨b, i, none⟩) bn _)
          have S8 : Hid ((wr.setCell ⟨b, i, none⟩ (.int .u8 (L.getD (i / 4) 0 / 2 ^ (24 - 8 * (i % 4)) % 256))).heap[g]? = some (.cells (rowb Z32) 27 (0, 0))) := Lib.hid (blk_far S7.out (p := ⟨b, i, none⟩) bg _)
          have F8 : Hid (Below w.heap.size w (wr.setCell ⟨b, i, none⟩ (.int .u8 (L.getD (i / 4) 0 / 2 ^ (24 - 8 * (i % 4)) % 256)))) := Lib.hid (below_set F7.out hb0)
          clear O7 T7 S7 F7
          generalize (outB L i).getD i 0 = y at kb
          generalize L.getD (i / 4) 0 = x at kL O8 T8 S8 F8
          go_wp2_with fail
          go_roundw
          case rel => exact ⟨i + 1, by omega, by go_num, O8, T8, S8, F8⟩
          case measure => simp [intOf]; omega
        · have hlt : ¬ (i : Int) < 32 := by omega
          obtain rfl : i = 32 := by omega
          rw [HO.out] at O7
          have hOl : OUT.length = 32 := by rw [← HO.out, outB_len]
          have hszO : (rowb OUT).size = 32 := by rw [rowb, List.size_toArray, List.length_map, hOl]
          go_upto_region 13 with (fail)
          go_step
          refine wpList_load_row rfl 27 _ rfl b rfl 27 _ _ _ O7.out Try.underlying27 rfl (by rw [hszO]; exact hi32) ?_
          refine wpList_store_row rfl 27 _ _ rfl g (rowb OUT) rfl rfl 27 _ S7.out (by rw [hszO]; exact hi32) (by rw [hszO]; rfl) (rowb_one _) ?_
          have S8 := Lib.hid (setRow_heap wr g _ (rowb OUT) 27 (0, 0) S7.out)
          have F8 : Hid (Below w.heap.size w (wr.setRow g (rowb OUT))) := Lib.hid (below_row F7.out hg0)
          clear O7 T7 S7 F7
          generalize wr.setRow g _ = w9 at S8 F8 ⊢
          go_wp2
          refine bodyPost_ret (results_cell_row rfl _ _ g 27 (rowb OUT) (0, 0) _ rfl S8.out Try.underlying27 rfl (by rw [hszO]; exact hi32)) rfl ?_
          exact ⟨rfl, by rw [← hg]; exact F8.out⟩
end Go.Proofs.Ytndfpidilodmgaa.Hand
