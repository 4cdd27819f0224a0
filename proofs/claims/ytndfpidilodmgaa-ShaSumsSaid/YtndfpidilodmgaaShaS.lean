/- What Of of the document returns, of any text of up to 1,000,000 bytes. -/
import Derived.Test.YtndfpidilodmgaaShaT
set_option linter.unusedSimpArgs false
set_option linter.unusedVariables false
namespace Go.Proofs.Ytndfpidilodmgaa.Hand
open Go.RowKit Go.Proofs.YtndfpidilodmgaaW.PrintWords Go.Proofs.YtndfpidilodmgaaW.PrintLast
open Go.Proofs.Ytndfpidilodmgaa.PShaTurns
theorem TL_W (s : ByteArray) (x : T8) : ∀ y ∈ TL s x, W32 y := by
  obtain ⟨a0, a1, a2, a3, a4, a5, a6, a7⟩ := x
  rw [TL]
  obtain ⟨b0, b1, b2, b3, b4, b5, b6, b7⟩ := RS s 64 (a0, a1, a2, a3, a4, a5, a6, a7)
  intro y hy
  simp only [l8, ADD, List.getD_cons_zero, List.getD_cons_succ, List.set_cons_zero, List.set_cons_succ, IntKind.wrap_u32', List.mem_cons, List.not_mem_nil, or_false] at hy
  rcases hy with rfl | rfl | rfl | rfl | rfl | rfl | rfl | rfl <;> exact W32.mod _
theorem ST_W (s : ByteArray) : ∀ j, ∀ y ∈ ST s j, W32 y
  | 0 => by
    intro y hy
    simp only [ST, S0, List.mem_cons, List.not_mem_nil, or_false] at hy
    rcases hy with rfl | rfl | rfl | rfl | rfl | rfl | rfl | rfl <;> exact ⟨by decide, by decide⟩
  | j + 1 => TL_W _ _
theorem outB_step (L : List Int) (x : Int) (i r : Nat) (h : L.getD i 0 = x) (hr : r < 4) : outB L (4 * i + r + 1) = (outB L (4 * i + r)).set (4 * i + r) (x / 2 ^ (24 - 8 * r) % 256) := by
  rw [outB, show (4 * i + r) / 4 = i by omega, show (4 * i + r) % 4 = r by omega, h]
theorem val0 (x : Int) (h : W32 x) : Int.tdiv x 16777216 % 256 = x / 2 ^ (24 - 8 * 0) % 256 := by
  obtain ⟨a, rfl, ha⟩ := h.nat
  show ((a / 16777216 : Nat) : Int) % 256 = (a : Int) / 16777216 % 256
  omega
theorem val1 (x : Int) (h : W32 x) : Int.tdiv x 65536 % 256 = x / 2 ^ (24 - 8 * 1) % 256 := by
  obtain ⟨a, rfl, ha⟩ := h.nat
  show ((a / 65536 : Nat) : Int) % 256 = (a : Int) / 65536 % 256
  omega
theorem val2 (x : Int) (h : W32 x) : Int.tdiv x 256 % 256 = x / 2 ^ (24 - 8 * 2) % 256 := by
  obtain ⟨a, rfl, ha⟩ := h.nat
  show ((a / 256 : Nat) : Int) % 256 = (a : Int) / 256 % 256
  omega
theorem val3 (x : Int) (h : W32 x) : Int.tmod x 256 % 256 = x / 2 ^ (24 - 8 * 3) % 256 := by
  obtain ⟨a, rfl, ha⟩ := h.nat
  show ((a % 256 : Nat) : Int) % 256 = (a : Int) / 1 % 256
  omega
set_option maxRecDepth 100000 in
set_option maxHeartbeats 3200000 in
theorem refof_walk (s : ByteArray) (hsz : s.size ≤ 1000000) (w : World) : Calls Try.prog 8 #[.string s] w fun e w' => e = .returned (.agg (rowb (ofB s))) ∧ Below w.heap.size w w' := by
  obtain ⟨OUT, hOUT⟩ : ∃ L, ofB s = L := ⟨_, rfl⟩
  rw [hOUT]
  have HOUT := Lib.hid hOUT
  clear hOUT
  have S1 := Lib.hid (blk_new w (.cells (rowb Z32) 25))
  have F1 := Lib.hid (below_alloc (Below.refl w.heap.size w) (.cells (rowb Z32) 25))
  go_enter Try.func8, Try.ntmps8
  go_upto_region 1 with (fail)
  go_step
  change wpList _ _ _ _ _ (w.alloc (.cells (rowb Z32) 25))
  generalize w.alloc _ = w1 at S1 F1 ⊢
  obtain ⟨g, hg⟩ : ∃ g, w.heap.size = g := ⟨_, rfl⟩
  have hg0 : w.heap.size ≤ g := by omega
  rw [hg] at S1 ⊢
  have hps := padB_size s.size
  have hz : padZ s.size < 64 := Nat.mod_lt _ (by decide)
  have hcat : s.size + (padB s.size).size ≤ 9223372036854775807 := by omega
  iterate 11 go_step
  with_reducible refine (refpad_walk s.size (by omega) w1).mono ?_
  rintro e w3 ⟨rfl, hb⟩
  dsimp only
  have S3 := Lib.hid (blk_below S1.out hb)
  have F3 := Lib.hid (below_step F1.out hb)
  clear S1 F1 hb
  go_upto_region 2 with (fail)
  go_step
  obtain ⟨A, hA⟩ : ∃ A, s ++ padB s.size = A := ⟨_, rfl⟩
  have hAs : A.size = s.size + (padZ s.size + 9) := by rw [← hA, ByteArray.size_append, hps]
  have hev := Lib.hid (pad_even s.size)
  have HAS := Lib.hid hAs
  have hA30 : A.size ≤ 2000000 := by omega
  clear hps hAs
  rw [hA]
  iterate 2 go_step
  (with_reducible refine (muleteerref02_Start.calls S0 w3 rfl).mono ?_)
  rintro e w4 ⟨v4, rfl, R4, hb⟩
  have S4 := Lib.hid (blk_below S3.out hb)
  have F4 := Lib.hid (below_step F3.out hb)
  have hws : w.heap.size ≤ w3.heap.size := below_size F3.out
  have R5 : Hid (Kd.R (Kd.int .u32) 32 w4 w.heap.size (fun _ => True) v4 S0) := Lib.hid (Kd.R_lower R4 hws)
  clear S3 F3 hb R4
  dsimp only
  go_upto_region 3 with (fail)
  go_wp2_with fail
  go_loopw [5, 4] (fun v5 v4 wr => ∃ (j m : Nat), m = 64 * j ∧ m ≤ A.size ∧ v5 = .int .i64 m ∧ Hid (Kd.R (Kd.int .u32) 32 wr w.heap.size (fun _ => True) v4 (ST A j)) ∧ Hid (wr.heap[g]? = some (.cells (rowb Z32) 25 (0, 0))) ∧ Hid (Below w.heap.size w wr)) (fun v5 _ _ => 3000000 - (intOf v5).toNat)
  case atStart => exact ⟨0, 0, rfl, by omega, rfl, R5, S4, F4⟩
  case round =>
    clear R5 S4 F4
    obtain ⟨j, m, hm, hle, rfl, R5, S5, F5⟩ := hrel
    have hw : IntKind.i64.wrap ((m : Int) + 64) = (m : Int) + 64 := by rw [IntKind.wrap_i64]; omega
    have hm0 : (0 : Int) ≤ (m : Int) := by omega
    have HM := Lib.hid hm
    have HLE := Lib.hid hle
    clear hm hle
    obtain ⟨A0, cc, hv4, hcc, hC⟩ := Kd.R_reads R5.out
    subst hv4
    have HC := Lib.hid hC
    have HCC := Lib.hid hcc
    have H2 := Lib.hid hA30
    clear hC hcc
    by_cases h : m + 64 ≤ A.size
    · have hlt : (m : Int) + 64 ≤ (A.size : Int) := by omega
      go_upto_region 6 with (fail)
      go_step
      iterate 20 go_step
      have hxs : (A.extract m (m + 64)).size = 64 := by rw [ByteArray.size_extract]; omega
      have TE : Hid (TLs (ST A j) (A.extract m (m + 64)) = ST A (j + 1)) := Lib.hid (by rw [HM.out]; rfl)
      (with_reducible refine (muleteerref02_Turn.calls 175 A0 cc (ST A j) (A.extract m (m + 64)) (TLs (ST A j) (A.extract m (m + 64))) wr HC.out HCC.out (refturn_f (ST A j) (ST_len A j) (ST_W A j) _ hxs)).mono ?_)
      rintro e w5 ⟨v9, rfl, R9, hb5⟩
      have R6 : Hid (Kd.R (Kd.int .u32) 32 w5 w.heap.size (fun _ => True) v9 (ST A (j + 1))) := Lib.hid (by rw [← TE.out]; exact Kd.R_lower R9 (below_size F5.out))
      have S6 := Lib.hid (blk_below S5.out hb5)
      have F6 := Lib.hid (below_step F5.out hb5)
      clear R5 S5 F5 R9 hb5 HC HCC
      dsimp only
      go_wp2_with fail
      go_roundw
      case rel => exact ⟨j + 1, m + 64, by have := HM.out; omega, by omega, by go_num, R6, S6, F6⟩
      case measure => simp [intOf]; omega
    · have hlt : ¬ (m : Int) + 64 ≤ (A.size : Int) := by omega
      have hmA : m = A.size := by have := HM.out; have := HLE.out; have := hev.out; have := HAS.out; omega
      have hjd : j = A.size / 64 := by have := HM.out; omega
      have HO : Hid (outB (ST A j) 32 = OUT) := Lib.hid (by rw [← HOUT.out, ofB, hA, hjd])
      obtain ⟨g4, c4, hv4, hg4, hc4⟩ := slice_cells R5.out (ST_len A j)
      injection hv4 with hv1 hv2 hv3
      subst hv1
      have HW4 := Lib.hid (ST_W A j)
      have HL4 := Lib.hid (ST_len A j)
      have hA8 : (ST A j).length = 8 := ST_len A j
      obtain ⟨L, hL⟩ : ∃ L, ST A j = L := ⟨_, rfl⟩
      rw [hL] at HO HW4 HL4 hc4 hA8 ⊢
      have C4 := Lib.hid hc4
      clear hc4 hL hmA hjd HC hv2 hv3 R5
      rw [hA8]
      clear hA8
      go_upto_region 7 with (fail)
      go_step
      refine wpList_alloc_to rfl 25 rfl (rowb Z32) 32 (by kernel_rfl) ?_
      have S7 := Lib.hid (blk_alloc S5.out (.cells (rowb Z32) 25))
      have O7 : Hid ((wr.alloc (.cells (rowb Z32) 25)).heap[wr.heap.size]? = some (.cells (rowb (outB L 0)) 25 (0, 0))) := Lib.hid (blk_new wr (.cells (rowb Z32) 25))
      have F7 := Lib.hid (below_alloc F5.out (.cells (rowb Z32) 25))
      have C7 : Hid (∀ k, k < 8 → (wr.alloc (.cells (rowb Z32) 25)).cell? ⟨g4, k, none⟩ = some (.int .u32 (L.getD k 0))) := Lib.hid (fun k hk => ((below_alloc (Below.refl wr.heap.size wr) _).cell hg4).trans (C4.out k hk))
      obtain ⟨b, hb⟩ : ∃ b, wr.heap.size = b := ⟨_, rfl⟩
      have hbg : g < b := by rw [← hb]; exact blk_lt S5.out
      have hb0 : w.heap.size ≤ b := by omega
      rw [hb] at O7 hg4 ⊢
      clear S5 F5 C4
      generalize wr.alloc _ = w7 at S7 O7 F7 C7 ⊢
      simp only [Act.put, List.setIfInBounds_toArray, List.set_cons_zero, List.set_cons_succ]
      have hi32 : (Try.prog.info? 25).map (·.size) = some 32 := by kernel_rfl
      go_wp2_with fail
      go_loopw [7] (fun v7 wx => ∃ i : Nat, i ≤ 8 ∧ v7 = .int .i64 i ∧ Hid (wx.heap[b]? = some (.cells (rowb (outB L (4 * i))) 25 (0, 0))) ∧ Hid (∀ k, k < 8 → wx.cell? ⟨g4, k, none⟩ = some (.int .u32 (L.getD k 0))) ∧ Hid (wx.heap[g]? = some (.cells (rowb Z32) 25 (0, 0))) ∧ Hid (Below w.heap.size w wx)) (fun v7 _ => 8 - (intOf v7).toNat)
      case atStart => exact ⟨0, by omega, rfl, O7, C7, S7, F7⟩
      case round =>
        clear O7 C7 S7 F7
        obtain ⟨i, hi, rfl, O7, C7, S7, F7⟩ := hrel
        have gb : g ≠ b := by omega
        have g4b : g4 ≠ b := by omega
        by_cases h8 : i < 8
        · have hlt8 : (i : Int) < 8 := by omega
          have hi0 : (0 : Int) ≤ (i : Int) := by omega
          have kL := C7.out i h8
          have hx : W32 (L.getD i 0) := by
            rw [List.getD_eq_getElem?_getD, List.getElem?_eq_getElem (by rw [HL4.out]; exact h8), Option.getD_some]
            exact HW4.out _ (List.getElem_mem _)
          have HX := Lib.hid hx
          clear hx
          have e4 : IntKind.i64.wrap (4 * (i : Int)) = 4 * (i : Int) := by rw [IntKind.wrap_i64]; omega
          have e41 : IntKind.i64.wrap (4 * (i : Int) + 1) = 4 * (i : Int) + 1 := by rw [IntKind.wrap_i64]; omega
          have e42 : IntKind.i64.wrap (4 * (i : Int) + 2) = 4 * (i : Int) + 2 := by rw [IntKind.wrap_i64]; omega
          have e43 : IntKind.i64.wrap (4 * (i : Int) + 3) = 4 * (i : Int) + 3 := by rw [IntKind.wrap_i64]; omega
          have t0 : (4 * (i : Int)).toNat = 4 * i := by omega
          have t1 : (4 * (i : Int) + 1).toNat = 4 * i + 1 := by omega
          have t2 : (4 * (i : Int) + 2).toNat = 4 * i + 2 := by omega
          have t3 : (4 * (i : Int) + 3).toNat = 4 * i + 3 := by omega
          have p0 : (0 : Int) ≤ 4 * (i : Int) := by omega
          have p1 : 4 * (i : Int) < 32 := by omega
          have p2 : (0 : Int) ≤ 4 * (i : Int) + 1 := by omega
          have p3 : 4 * (i : Int) + 1 < 32 := by omega
          have p4 : (0 : Int) ≤ 4 * (i : Int) + 2 := by omega
          have p5 : 4 * (i : Int) + 2 < 32 := by omega
          have p6 : (0 : Int) ≤ 4 * (i : Int) + 3 := by omega
          have p7 : 4 * (i : Int) + 3 < 32 := by omega
          obtain ⟨x, hxx⟩ : ∃ x, L.getD i 0 = x := ⟨_, rfl⟩
          rw [hxx] at kL HX
          have HXX := Lib.hid hxx
          clear hxx
          have kb := rowb_get O7.out (4 * i) (by rw [outB_len]; omega)
          have kf := blk_frozen O7.out (4 * i)
          generalize (outB L (4 * i)).getD (4 * i) 0 = y0 at kb
          go_upto_region 12 with (fail)
          have O8_0 : Hid ((wr.setCell ⟨b, 4 * i, none⟩ (.int .u8 (Int.tdiv x 16777216 % 256))).heap[b]? = some (.cells (rowb (outB L (4 * i + 1))) 25 (0, 0))) := Lib.hid (by rw [outB_step L x i 0 HXX.out (by decide), ← val0 x HX.out]; exact rowb_put O7.out (4 * i) _)
          have C8_0 : Hid (∀ k, k < 8 → (wr.setCell ⟨b, 4 * i, none⟩ (.int .u8 (Int.tdiv x 16777216 % 256))).cell? ⟨g4, k, none⟩ = some (.int .u32 (L.getD k 0))) := Lib.hid (fun k hk => (World.cell?_setCells_out b [(.int .u8 (Int.tdiv x 16777216 % 256))] (4 * i) wr ⟨g4, k, none⟩ (fun e => absurd e g4b)).trans (C7.out k hk))
          have S8_0 : Hid ((wr.setCell ⟨b, 4 * i, none⟩ (.int .u8 (Int.tdiv x 16777216 % 256))).heap[g]? = some (.cells (rowb Z32) 25 (0, 0))) := Lib.hid (blk_far S7.out (p := ⟨b, 4 * i, none⟩) gb _)
          have F8_0 : Hid (Below w.heap.size w (wr.setCell ⟨b, 4 * i, none⟩ (.int .u8 (Int.tdiv x 16777216 % 256)))) := Lib.hid (below_set F7.out hb0)
          clear kb kf kL O7 C7 S7 F7
          generalize wr.setCell _ _ = wa at O8_0 C8_0 S8_0 F8_0 ⊢
          have kL := C8_0.out i h8
          rw [HXX.out] at kL
          have kb := rowb_get O8_0.out (4 * i + 1) (by rw [outB_len]; omega)
          have kf := blk_frozen O8_0.out (4 * i + 1)
          generalize (outB L (4 * i + 1)).getD (4 * i + 1) 0 = y1 at kb
          go_upto_region 13 with (fail)
          have O8_1 : Hid ((wa.setCell ⟨b, 4 * i + 1, none⟩ (.int .u8 (Int.tdiv x 65536 % 256))).heap[b]? = some (.cells (rowb (outB L (4 * i + 1 + 1))) 25 (0, 0))) := Lib.hid (by rw [outB_step L x i 1 HXX.out (by decide), ← val1 x HX.out]; exact rowb_put O8_0.out (4 * i + 1) _)
          have C8_1 : Hid (∀ k, k < 8 → (wa.setCell ⟨b, 4 * i + 1, none⟩ (.int .u8 (Int.tdiv x 65536 % 256))).cell? ⟨g4, k, none⟩ = some (.int .u32 (L.getD k 0))) := Lib.hid (fun k hk => (World.cell?_setCells_out b [(.int .u8 (Int.tdiv x 65536 % 256))] (4 * i + 1) wa ⟨g4, k, none⟩ (fun e => absurd e g4b)).trans (C8_0.out k hk))
          have S8_1 : Hid ((wa.setCell ⟨b, 4 * i + 1, none⟩ (.int .u8 (Int.tdiv x 65536 % 256))).heap[g]? = some (.cells (rowb Z32) 25 (0, 0))) := Lib.hid (blk_far S8_0.out (p := ⟨b, 4 * i + 1, none⟩) gb _)
          have F8_1 : Hid (Below w.heap.size w (wa.setCell ⟨b, 4 * i + 1, none⟩ (.int .u8 (Int.tdiv x 65536 % 256)))) := Lib.hid (below_set F8_0.out hb0)
          clear kb kf kL O8_0 C8_0 S8_0 F8_0
          generalize wa.setCell _ _ = wb at O8_1 C8_1 S8_1 F8_1 ⊢
          have kL := C8_1.out i h8
          rw [HXX.out] at kL
          have kb := rowb_get O8_1.out (4 * i + 2) (by rw [outB_len]; omega)
          have kf := blk_frozen O8_1.out (4 * i + 2)
          generalize (outB L (4 * i + 1 + 1)).getD (4 * i + 2) 0 = y2 at kb
          go_upto_region 14 with (fail)
          have O8_2 : Hid ((wb.setCell ⟨b, 4 * i + 2, none⟩ (.int .u8 (Int.tdiv x 256 % 256))).heap[b]? = some (.cells (rowb (outB L (4 * i + 2 + 1))) 25 (0, 0))) := Lib.hid (by rw [outB_step L x i 2 HXX.out (by decide), ← val2 x HX.out]; exact rowb_put O8_1.out (4 * i + 2) _)
          have C8_2 : Hid (∀ k, k < 8 → (wb.setCell ⟨b, 4 * i + 2, none⟩ (.int .u8 (Int.tdiv x 256 % 256))).cell? ⟨g4, k, none⟩ = some (.int .u32 (L.getD k 0))) := Lib.hid (fun k hk => (World.cell?_setCells_out b [(.int .u8 (Int.tdiv x 256 % 256))] (4 * i + 2) wb ⟨g4, k, none⟩ (fun e => absurd e g4b)).trans (C8_1.out k hk))
          have S8_2 : Hid ((wb.setCell ⟨b, 4 * i + 2, none⟩ (.int .u8 (Int.tdiv x 256 % 256))).heap[g]? = some (.cells (rowb Z32) 25 (0, 0))) := Lib.hid (blk_far S8_1.out (p := ⟨b, 4 * i + 2, none⟩) gb _)
          have F8_2 : Hid (Below w.heap.size w (wb.setCell ⟨b, 4 * i + 2, none⟩ (.int .u8 (Int.tdiv x 256 % 256)))) := Lib.hid (below_set F8_1.out hb0)
          clear kb kf kL O8_1 C8_1 S8_1 F8_1
          generalize wb.setCell _ _ = wc at O8_2 C8_2 S8_2 F8_2 ⊢
          have kL := C8_2.out i h8
          rw [HXX.out] at kL
          have kb := rowb_get O8_2.out (4 * i + 3) (by rw [outB_len]; omega)
          have kf := blk_frozen O8_2.out (4 * i + 3)
          generalize (outB L (4 * i + 2 + 1)).getD (4 * i + 3) 0 = y3 at kb
          go_upto_region 10 with (fail)
          have O8_3 : Hid ((wc.setCell ⟨b, 4 * i + 3, none⟩ (.int .u8 (Int.tmod x 256 % 256))).heap[b]? = some (.cells (rowb (outB L (4 * i + 3 + 1))) 25 (0, 0))) := Lib.hid (by rw [outB_step L x i 3 HXX.out (by decide), ← val3 x HX.out]; exact rowb_put O8_2.out (4 * i + 3) _)
          have C8_3 : Hid (∀ k, k < 8 → (wc.setCell ⟨b, 4 * i + 3, none⟩ (.int .u8 (Int.tmod x 256 % 256))).cell? ⟨g4, k, none⟩ = some (.int .u32 (L.getD k 0))) := Lib.hid (fun k hk => (World.cell?_setCells_out b [(.int .u8 (Int.tmod x 256 % 256))] (4 * i + 3) wc ⟨g4, k, none⟩ (fun e => absurd e g4b)).trans (C8_2.out k hk))
          have S8_3 : Hid ((wc.setCell ⟨b, 4 * i + 3, none⟩ (.int .u8 (Int.tmod x 256 % 256))).heap[g]? = some (.cells (rowb Z32) 25 (0, 0))) := Lib.hid (blk_far S8_2.out (p := ⟨b, 4 * i + 3, none⟩) gb _)
          have F8_3 : Hid (Below w.heap.size w (wc.setCell ⟨b, 4 * i + 3, none⟩ (.int .u8 (Int.tmod x 256 % 256)))) := Lib.hid (below_set F8_2.out hb0)
          clear kb kf kL O8_2 C8_2 S8_2 F8_2
          generalize wc.setCell _ _ = wd at O8_3 C8_3 S8_3 F8_3 ⊢
          have O9 : Hid (wd.heap[b]? = some (.cells (rowb (outB L (4 * (i + 1)))) 25 (0, 0))) := O8_3
          go_wp2_with fail
          go_roundw
          case rel => exact ⟨i + 1, by omega, by go_num, O9, C8_3, S8_3, F8_3⟩
          case measure => simp [intOf]; omega
        · have hlt8 : ¬ (i : Int) < 8 := by omega
          obtain rfl : i = 8 := by omega
          rw [show 4 * 8 = 32 from rfl, HO.out] at O7
          have hOl : OUT.length = 32 := by rw [← HO.out, outB_len]
          have hszO : (rowb OUT).size = 32 := by rw [rowb, List.size_toArray, List.length_map, hOl]
          go_upto_region 15 with (fail)
          go_step
          refine wpList_load_row rfl 25 _ rfl b rfl 25 _ _ _ O7.out Try.underlying25 rfl (by rw [hszO]; exact hi32) ?_
          refine wpList_store_row rfl 25 _ _ rfl g (rowb OUT) rfl rfl 25 _ S7.out (by rw [hszO]; exact hi32) (by rw [hszO]; rfl) (rowb_one _) ?_
          have S8 := Lib.hid (setRow_heap wr g _ (rowb OUT) 25 (0, 0) S7.out)
          have F8 : Hid (Below w.heap.size w (wr.setRow g (rowb OUT))) := Lib.hid (below_row F7.out hg0)
          clear O7 C7 S7 F7
          generalize wr.setRow g _ = w9 at S8 F8 ⊢
          go_wp2
          refine bodyPost_ret (results_cell_row rfl _ _ g 25 (rowb OUT) (0, 0) _ rfl S8.out Try.underlying25 rfl (by rw [hszO]; exact hi32)) rfl ?_
          exact ⟨rfl, by first | exact F8.out | (rw [← hg]; exact F8.out)⟩
end Go.Proofs.Ytndfpidilodmgaa.Hand
