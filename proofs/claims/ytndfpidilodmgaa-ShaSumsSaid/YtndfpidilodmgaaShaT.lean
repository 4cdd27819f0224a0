/- The statement ShaTurns walked. -/
import Derived.Test.YtndfpidilodmgaaShaR
import Derived.Test.YtndfpidilodmgaaPShaTurnsx
set_option linter.unusedSimpArgs false
set_option linter.unusedVariables false
namespace Go.Proofs.Ytndfpidilodmgaa.Hand
open Go.RowKit Go.Proofs.YtndfpidilodmgaaW.PrintWords Go.Proofs.YtndfpidilodmgaaW.PrintLast
open Go.Proofs.Ytndfpidilodmgaa.PShaTurns
theorem refturn_f (L : List Int) (hL : L.length = 8) (hW : ∀ x ∈ L, W32 x) (s : ByteArray) (hs : s.size = 64) : muleteerref02_Turn.f 175 L s = some (TLs L s) := by
  match L, hL, hW with
  | [a0, a1, a2, a3, a4, a5, a6, a7], _, hW =>
    exact w_loop s hs a0 a1 a2 a3 a4 a5 a6 a7 (hW _ (by simp)) (hW _ (by simp)) (hW _ (by simp)) (hW _ (by simp)) (hW _ (by simp)) (hW _ (by simp)) (hW _ (by simp)) (hW _ (by simp)) 64 0 rfl
theorem slice_cells {w : World} {base : Nat} {ok : Nat → Prop} {v : Value} {xs : List Int} (h : Kd.R (Kd.int .u32) 32 w base ok v xs) (hx : xs.length = 8) :
    ∃ g c, v = .slice (some ⟨g, 0, none⟩) 8 c ∧ g < w.heap.size ∧ ∀ j, j < 8 → w.cell? ⟨g, j, none⟩ = some (.int .u32 (xs.getD j 0)) := by
  have own := Kd.own_of_R h
  rcases own.2 with ⟨_, hz⟩ | ⟨g, cap, cur, rfl, _, hg, _⟩
  · omega
  · refine ⟨g, cap, by rw [hx], blk_lt hg, fun j hj => ?_⟩
    have hj' : j < xs.length := by omega
    have hc := own.cells (g := g) rfl j (.int .u32 (xs.getD j 0)) (by
      rw [encs, List.getElem?_map, List.getElem?_eq_getElem hj', List.getD_eq_getElem?_getD, List.getElem?_eq_getElem hj']
      rfl)
    have ha : (⟨g, 0, none⟩ : Addr).add j = ⟨g, j, none⟩ := by
      unfold Addr.add
      split
      · rename_i h0; subst h0; rfl
      · simp
    rw [ha] at hc
    exact hc
set_option maxRecDepth 100000 in
set_option maxHeartbeats 3200000 in
theorem ShaTurns_walk (L : List Int) (hL : L.length = 8) (hW : ∀ x ∈ L, W32 x) (s : ByteArray) (w : World) : Calls Try.prog 5 #[.agg (row L), .string s] w fun e w' => e = .returned (.bool true) ∧ Below w.heap.size w w' := by
  have hszL : (row L).size = 8 := by rw [row, List.size_toArray, List.length_map, hL]
  have hi8 : (Try.prog.info? 33).map (·.size) = some 8 := by kernel_rfl
  have S1 := Lib.hid (blk_new w (.cells (row L) 33))
  have F1 := Lib.hid (below_alloc (Below.refl w.heap.size w) (.cells (row L) 33))
  have HT := Lib.hid (Turn_walk L hL s)
  have HW := Lib.hid hW
  have HL := Lib.hid hL
  obtain ⟨RB, hRB⟩ : ∃ R, row L = R := ⟨_, rfl⟩
  rw [hRB] at S1 F1 HT hszL ⊢
  have HRB := Lib.hid hRB
  clear hW hL hRB
  by_cases hbig : 200 < s.size
  · have hb2 : (200 : Int) < (s.size : Int) := by omega
    go_enter Try.func5, Try.ntmps5
    go_wp2_with (go_at_call 7; (with_reducible refine (awake_walk _).mono ?_); rintro e w2 ⟨rfl, hb⟩)
    go_ret
    exact ⟨rfl, below_step F1.out hb⟩
  · have hb2 : ¬ (200 : Int) < (s.size : Int) := by omega
    go_enter Try.func5, Try.ntmps5
    go_upto_region 3 with (fail)
    go_step
    change wpList _ _ _ _ _ (w.alloc (.cells RB 33))
    generalize w.alloc _ = w1 at S1 F1 ⊢
    obtain ⟨g, hg⟩ : ∃ g, w.heap.size = g := ⟨_, rfl⟩
    have hg0 : w.heap.size ≤ g := by omega
    rw [hg] at S1 ⊢
    refine wpList_load_row rfl 33 _ rfl g rfl 33 _ _ _ S1.out Try.underlying33 rfl (by rw [hszL]; exact hi8) ?_
    iterate 5 go_step
    (with_reducible refine (HT.out w1).mono ?_)
    rintro e w2 ⟨rfl, hb⟩
    have S2 := Lib.hid (blk_below S1.out hb)
    have F2 := Lib.hid (below_step F1.out hb)
    clear S1 F1 hb HT
    dsimp only
    obtain ⟨O, hO⟩ : ∃ O, (if s.size = 64 then TLs L s else [0, 0, 0, 0, 0, 0, 0, 0]) = O := ⟨_, rfl⟩
    obtain ⟨c, hc⟩ : ∃ c : Int, (if s.size = 64 then 0 else 1) = c := ⟨_, rfl⟩
    have hOl : O.length = 8 := by rw [← hO]; split; exact TLs_len _ _; rfl
    rw [hO, hc]
    obtain ⟨T, hT⟩ : ∃ T, row O = T := ⟨_, rfl⟩
    have hszT : T.size = 8 := by rw [← hT, row, List.size_toArray, List.length_map, hOl]
    have HT1 : Hid (T.all (·.oneCell') = true) := Lib.hid (by rw [← hT]; exact row_one _)
    rw [hT]
    have HTT := Lib.hid hT
    have HO := Lib.hid hO
    have HOL := Lib.hid hOl
    clear hT hO hOl
    go_step
    iterate 9 go_step
    refine wpList_alloc_to rfl 33 rfl (row [0, 0, 0, 0, 0, 0, 0, 0]) 8 (by kernel_rfl) ?_
    have S3 := Lib.hid (blk_alloc S2.out (.cells (row [0, 0, 0, 0, 0, 0, 0, 0]) 33))
    have T3 := Lib.hid (blk_new w2 (.cells (row [0, 0, 0, 0, 0, 0, 0, 0]) 33))
    have F3 := Lib.hid (below_alloc F2.out (.cells (row [0, 0, 0, 0, 0, 0, 0, 0]) 33))
    have hgq : g < w2.heap.size := blk_lt S2.out
    obtain ⟨q, hq⟩ : ∃ q, w2.heap.size = q := ⟨_, rfl⟩
    rw [hq] at T3 hgq ⊢
    clear S2 F2
    generalize w2.alloc _ = w3 at S3 T3 F3 ⊢
    have hq0 : w.heap.size ≤ q := by omega
    refine wpList_store_row rfl 33 (.tmp 5) (.tmp 21) rfl q T rfl rfl 33 _ T3.out (by rw [hszT]; exact hi8) (by rw [hszT]; rfl) HT1.out ?_
    have S4 := Lib.hid ((setRow_other w3 q g T (by omega)).trans S3.out)
    have T4 := Lib.hid (setRow_heap w3 q _ T 33 (0, 0) T3.out)
    have F4 := Lib.hid (below_setRow F3.out hq0 T)
    clear S3 T3 F3
    generalize w3.setRow _ _ = w4 at S4 T4 F4 ⊢
    simp only [Act.put, List.setIfInBounds_toArray, List.set_cons_zero, List.set_cons_succ]
    by_cases h64 : s.size = 64
    · have hI64 : (s.size : Int) = 64 := by omega
      rw [if_pos h64] at HO hc
      subst hc
      obtain ⟨ti, hti, ht1, ht2, ht3⟩ : ∃ i, Try.prog.info? 32 = some i ∧ i.zero = some (.int .u32 0) ∧ i.size = 1 ∧ i.bytes = 4 := by
        have h5 : (Try.prog.info? 32).map (fun i => (i.zero, i.size, i.bytes)) = some (some (.int .u32 0), 1, 4) := by kernel_rfl
        cases hh : Try.prog.info? 32 with
        | none => rw [hh] at h5; cases h5
        | some i => rw [hh] at h5; injection h5 with h5; injection h5 with e1 h5; injection h5 with e2 e3; exact ⟨i, rfl, e1, e2, e3⟩
      obtain ⟨B, hB⟩ : ∃ B, w4.heap.size = B := ⟨_, rfl⟩
      have hgB : g < B := by rw [← hB]; exact blk_lt S4.out
      have hqB : q < B := by rw [← hB]; exact blk_lt T4.out
      have hwB : w.heap.size ≤ B := by omega
      go_upto_region 7 with (fail)
      go_wp2_with fail
      go_loopw [8, 7] (fun v8 v7 wr => ∃ n : Nat, n ≤ 8 ∧ v8 = .int .i64 n ∧ B ≤ wr.heap.size ∧ Hid (wr.ownsRow B 32 1 v7 (L.take n).length (nums .u32 (L.take n))) ∧ Hid (wr.heap[g]? = some (.cells RB 33 (0, 0))) ∧ Hid (wr.heap[q]? = some (.cells T 33 (0, 0))) ∧ Hid (Below w.heap.size w wr)) (fun v8 _ _ => 8 - (intOf v8).toNat)
      case atStart => exact ⟨0, by omega, rfl, by omega, Lib.hid (World.ownsRow_nil _ _ _ _), S4, T4, F4⟩
      case round =>
        clear S4 T4 F4
        obtain ⟨n, hn, rfl, hBr, O1, S1, T1, F1⟩ := hrel
        by_cases h8 : n < 8
        · have hlt : (n : Int) < 8 := by omega
          have hn0 : (0 : Int) ≤ (n : Int) := by omega
          have hk : wr.cell? ⟨g, n, none⟩ = some (.int .u32 (L.getD n 0)) := by
            have := S1.out
            rw [← HRB.out] at this
            exact row_get this n (by rw [HL.out]; exact h8)
          have hlen : (L.take n).length = n := by rw [List.length_take, HL.out]; omega
          have HH : Hid (L.take (n + 1) = L.take n ++ [L.getD n 0]) := Lib.hid (take_one L n (by rw [HL.out]; exact h8))
          have HLN := Lib.hid hlen
          generalize L.getD n 0 = x at hk HH
          clear hlen
          go_upto_region 10 with (fail)
          go_step
          iterate 15 go_step
          have O2 : Hid ((wr.alloc (.cells #[.int .u32 x] 32)).ownsRow B 32 1 u7 (L.take n).length (nums .u32 (L.take n))) := Lib.hid (O1.out.alloc _)
          have N2 := Lib.hid (blk_new wr (.cells #[.int .u32 x] 32))
          have S2 := Lib.hid (blk_alloc S1.out (.cells #[.int .u32 x] 32))
          have T2 := Lib.hid (blk_alloc T1.out (.cells #[.int .u32 x] 32))
          have F2 := Lib.hid (below_alloc F1.out (.cells #[.int .u32 x] 32))
          have hB2 : B ≤ (wr.alloc (.cells #[.int .u32 x] 32)).heap.size := by rw [World.size_alloc]; omega
          clear O1 S1 T1 F1
          generalize wr.alloc _ = w2 at O2 N2 S2 T2 F2 hB2 ⊢
          generalize wr.heap.size = z at N2 ⊢
          have hbase : w.heap.size ≤ w2.heap.size := below_size F2.out
          refine wpList_append_own w2 rfl (.tmp 40) (.tmp 44) 37 rfl B 32 ti (.int .u32 0) 1 4 Try.underlying37 hti ht1 ht2 ht3 rfl (by decide) u7 _ (nums .u32 (L.take n)) rfl O2.out ⟨z, 0, none⟩ 1 1 [.int .u32 x] rfl rfl ?_ ?_ ?_ ?_ hB2 ?_
          · intro j u hj
            match j, hj with
            | 0, hj => exact ((blk_cell N2.out 0).trans hj)
          · intro u hu
            simp only [List.mem_cons, List.not_mem_nil, or_false] at hu
            subst hu
            rfl
          · rw [HLN.out, maxLen]; omega
          · rw [HLN.out]; omega
          intro v4 w5 hown hgr _
          have ownB : ∀ k, u7.ownBlock = some k → B ≤ k := fun k hk => (World.ownsRow.lt O2.out k hk).1
          have O5 : Hid (w5.ownsRow B 32 1 v4 (L.take (n + 1)).length (nums .u32 (L.take (n + 1)))) := Lib.hid (by rw [HH.out, List.length_append, nums, List.map_append]; exact hown)
          have S5 : Hid (w5.heap[g]? = some (.cells RB 33 (0, 0))) := Lib.hid ((hgr.block g (blk_lt S2.out) (fun e => by have := ownB g e.symm; omega)).trans S2.out)
          have T5 : Hid (w5.heap[q]? = some (.cells T 33 (0, 0))) := Lib.hid ((hgr.block q (blk_lt T2.out) (fun e => by have := ownB q e.symm; omega)).trans T2.out)
          have F5 : Hid (Below w.heap.size w w5) := Lib.hid (Below.grown F2.out hgr hbase (fun k hk => by have := ownB k hk; omega))
          have hB5 : B ≤ w5.heap.size := Nat.le_trans hB2 hgr.size
          clear O2 N2 S2 T2 F2 hown hgr ownB hB2 hbase
          go_wp2_with fail
          go_roundw
          case rel => exact ⟨n + 1, by omega, by go_num, hB5, O5, S5, T5, F5⟩
          case measure => simp [intOf]; omega
        · have hlt : ¬ (n : Int) < 8 := by omega
          obtain rfl : n = 8 := by omega
          have htk : L.take 8 = L := List.take_of_length_le (by rw [HL.out]; exact Nat.le_refl _)
          rw [htk] at O1
          have hR : Kd.R (Kd.int .u32) 32 wr B (fun _ => True) u7 L := Kd.R_of_own O1.out (fun _ _ => trivial)
          obtain ⟨A, cc, hv7, hcc, hC⟩ := Kd.R_reads hR
          subst hv7
          have HC := Lib.hid hC
          clear O1 hR hC htk
          go_upto_region 11 with (fail)
          go_step
          iterate 8 go_step
          (with_reducible refine (muleteerref02_Turn.calls 175 A cc L s (TLs L s) wr HC.out hcc (refturn_f L HL.out HW.out s h64)).mono ?_)
          rintro e w5 ⟨v9, rfl, R9, hb5⟩
          obtain ⟨g9, c9, rfl, hg9, hc9⟩ := slice_cells R9 (TLs_len L s)
          have C5 := Lib.hid hc9
          have T5 := Lib.hid (blk_below T1.out hb5)
          have F5 := Lib.hid (below_step F1.out hb5)
          clear S1 T1 F1 R9 hb5 hc9 HC
          dsimp only
          go_step
          iterate 2 go_step
          (with_reducible refine (muleteerref02_Start.calls S0 w5 rfl).mono ?_)
          rintro e w6 ⟨v10, rfl, R10, hb6⟩
          obtain ⟨g10, c10, rfl, hg10, hc10⟩ := slice_cells R10 rfl
          have D6 := Lib.hid hc10
          have C6 : Hid (∀ j, j < 8 → w6.cell? ⟨g9, j, none⟩ = some (.int .u32 ((TLs L s).getD j 0))) := Lib.hid (fun j hj => (hb6.cell hg9).trans (C5.out j hj))
          have hg9' : g9 < w6.heap.size := Nat.lt_of_lt_of_le hg9 (below_size hb6)
          have T6 := Lib.hid (blk_below T5.out hb6)
          have F6 := Lib.hid (below_step F5.out hb6)
          clear C5 T5 F5 R10 hb6 hc10 hg9
          dsimp only
          go_step
          iterate 2 go_step
          with_reducible refine (start_walk w6).mono ?_
          rintro e w7 ⟨rfl, hb7⟩
          have D7 : Hid (∀ j, j < 8 → w7.cell? ⟨g10, j, none⟩ = some (.int .u32 (S0.getD j 0))) := Lib.hid (fun j hj => (hb7.cell hg10).trans (D6.out j hj))
          have C7 : Hid (∀ j, j < 8 → w7.cell? ⟨g9, j, none⟩ = some (.int .u32 ((TLs L s).getD j 0))) := Lib.hid (fun j hj => (hb7.cell hg9').trans (C6.out j hj))
          have hg9 : g9 < w7.heap.size := Nat.lt_of_lt_of_le hg9' (below_size hb7)
          have hg10' : g10 < w7.heap.size := Nat.lt_of_lt_of_le hg10 (below_size hb7)
          have T7 := Lib.hid (blk_below T6.out hb7)
          have F7 := Lib.hid (below_step F6.out hb7)
          clear C6 D6 T6 F6 hb7 hg9' hg10
          dsimp only
          go_step
          refine wpList_alloc_to rfl 33 rfl (row [0, 0, 0, 0, 0, 0, 0, 0]) 8 (by kernel_rfl) ?_
          have N8 := Lib.hid (blk_new w7 (.cells (row [0, 0, 0, 0, 0, 0, 0, 0]) 33))
          have B8 := below_alloc (Below.refl w7.heap.size w7) (.cells (row [0, 0, 0, 0, 0, 0, 0, 0]) 33)
          generalize w7.alloc _ = w8 at N8 B8 ⊢
          simp only [Act.put, List.setIfInBounds_toArray, List.set_cons_zero, List.set_cons_succ]
          iterate 6 go_step
          refine wpList_store_row rfl 33 (.tmp 11) (.tmp 50) rfl w7.heap.size (row S0) rfl rfl 33 _ N8.out hi8 rfl (row_one _) ?_
          have N9 := Lib.hid (setRow_heap w8 w7.heap.size _ (row S0) 33 (0, 0) N8.out)
          have B9 := below_setRow B8 (Nat.le_refl _) (row S0)
          clear N8 B8
          generalize w8.setRow _ _ = w9 at N9 B9 ⊢
          have D9 : Hid (∀ j, j < 8 → w9.cell? ⟨g10, j, none⟩ = some (.int .u32 (S0.getD j 0))) := Lib.hid (fun j hj => (B9.cell hg10').trans (D7.out j hj))
          have C9 : Hid (∀ j, j < 8 → w9.cell? ⟨g9, j, none⟩ = some (.int .u32 ((TLs L s).getD j 0))) := Lib.hid (fun j hj => (B9.cell hg9).trans (C7.out j hj))
          have hz9 := below_size B9
          have k9 : g9 < w9.heap.size := by omega
          have k10 : g10 < w9.heap.size := by omega
          have T9 := Lib.hid (blk_below T7.out B9)
          have F9 := Lib.hid (below_step F7.out B9)
          clear C7 D7 T7 F7 B9 hg9 hg10' hz9
          generalize w7.heap.size = b at N9 ⊢
          have HTL : Hid (TLs L s = O) := HO
          simp only [Act.put, List.setIfInBounds_toArray, List.set_cons_zero, List.set_cons_succ]
          go_wp2_with fail
          go_loopw [12] (fun v12 wx => ∃ n : Nat, n ≤ 8 ∧ v12 = .int .i64 n ∧ Hid (Below w9.heap.size w9 wx)) (fun v12 _ => 8 - (intOf v12).toNat)
          case atStart => exact ⟨0, by omega, rfl, Lib.hid (Below.refl _ _)⟩
          case round =>
            obtain ⟨n, hn, rfl, HB⟩ := hrel
            by_cases h8' : n < 8
            · have hlt' : (n : Int) < 8 := by omega
              have hn0' : (0 : Int) ≤ (n : Int) := by omega
              have e5 : wr.cell? ⟨q, n, none⟩ = some (.int .u32 (O.getD n 0)) := by
                have h := blk_below T9.out HB.out
                rw [← HTT.out] at h
                exact row_get h n (by rw [HOL.out]; exact h8')
              have e9 : wr.cell? ⟨g9, n, none⟩ = some (.int .u32 (O.getD n 0)) := by rw [← HTL.out]; exact (HB.out.cell k9).trans (C9.out n h8')
              have e11 : wr.cell? ⟨b, n, none⟩ = some (.int .u32 (S0.getD n 0)) := row_get (blk_below N9.out HB.out) n h8'
              have e10 : wr.cell? ⟨g10, n, none⟩ = some (.int .u32 (S0.getD n 0)) := (HB.out.cell k10).trans (D9.out n h8')
              generalize O.getD n 0 = x at e5 e9
              generalize S0.getD n 0 = y at e10 e11
              go_upto_region 15 with (fail)
              go_quiet (fail)
              go_wp2_with fail
              go_roundw
              case rel => exact ⟨n + 1, by omega, by go_num, Lib.hid (below_step HB.out (pw_below_drewN (Below.refl _ _) nq))⟩
              case measure => simp [intOf]; omega
            · have hlt' : ¬ (n : Int) < 8 := by omega
              have FW := below_step F9.out HB.out
              go_wp2_with (go_at_call 7; (with_reducible refine (awake_walk _).mono ?_); rintro e w10 ⟨rfl, hb⟩)
              go_ret
              exact ⟨rfl, by first | exact below_step FW hb | (rw [← hg]; exact below_step FW hb)⟩
    · have hI64 : ¬ (s.size : Int) = 64 := by omega
      rw [if_neg h64] at HO hc
      subst hc
      go_upto_region 5 with (fail)
      go_step
      iterate 2 go_step
      with_reducible refine (awake_walk _).mono ?_
      rintro e w5 ⟨rfl, hb⟩
      have T5 := Lib.hid (blk_below T4.out hb)
      have F5 := Lib.hid (below_step F4.out hb)
      clear S4 T4 F4 hb
      dsimp only
      have hTZ : T = row [0, 0, 0, 0, 0, 0, 0, 0] := by rw [← HTT.out, ← HO.out]
      have heq : ∀ W, (Op.equalIn 10000 33 (.agg T) (.agg #[.int .u32 0, .int .u32 0, .int .u32 0, .int .u32 0, .int .u32 0, .int .u32 0, .int .u32 0, .int .u32 0])).run Try.prog W = .ok true W := fun W => by rw [hTZ]; kernel_rfl
      clear hTZ
      repeat (first | refine wpList_load_row_wanted 33 (.tmp 5) rfl (by rfl) q rfl 33 T (0, 0) _ T5.out Try.underlying33 rfl (by rw [hszT]; exact hi8) ?_ | go_step)
      go_wp2
      go_ret
      exact ⟨rfl, by rw [← hg]; exact F5.out⟩
end Go.Proofs.Ytndfpidilodmgaa.Hand
