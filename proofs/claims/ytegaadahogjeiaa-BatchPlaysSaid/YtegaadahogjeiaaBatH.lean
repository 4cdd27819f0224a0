/- BatchPlays: the walk of the law. -/
import Derived.Test.YtegaadahogjeiaaBatG
import Derived.BigRegion
namespace Go.Proofs.Ytegaadahogjeiaa.Hand
open Go.RowKit Go.Proofs.Ytegaadahogjeiaa.PBatchPlays Go.Proofs.YtegaadahogjeiaaW.PrintWords Go.Proofs.YtegaadahogjeiaaW.PrintLast Go.Proofs.YtegaadahogjeiaaW.PrintMore
set_option linter.unusedVariables false
set_option linter.unusedSimpArgs false
theorem bb_start (w : World) (size wait : Int) : BB w ((w.alloc (.cells #[.int .i64 size, .int .u64 wait, .int .u64 0, .slice none 0 0] 51)).alloc (.cells #[.int .i64 size, .int .i64 wait, .int .u64 0, .slice none 0 0] 32)) w.heap.size (w.heap.size + 1) size wait 0 0 (.slice none 0 0) (.slice none 0 0) [] [] :=
  ⟨blk_alloc (blk_new w _) _, heap_alloc2_new w _ _, Kd.R_nil _ _ _ _ _, Kd.R_nil _ _ _ _ _, .inl rfl, Nat.le_refl _, Nat.le_succ _, below_alloc (below_alloc (Below.refl _ _) _) _⟩
theorem msg_C (w : World) (m : S37) : Kd.C k37 (w.alloc (.cells #[.int .i64 m.f0, .int .i64 m.f1.f0, .int .i64 m.f1.f1, .int .u64 m.f1.f2, .int .u64 m.f1.f3, .string m.f1.f4, .string m.f2] 37)) (some ⟨w.heap.size, 0, none⟩) 1 [m] := by
  have h := World.ownsRow_lit (base := w.heap.size) (e := 37) (size := 7) w #[.int .i64 m.f0, .int .i64 m.f1.f0, .int .i64 m.f1.f1, .int .u64 m.f1.f2, .int .u64 m.f1.f3, .string m.f1.f4, .string m.f2] 1 (Nat.le_refl _) (by decide) (by simp)
  exact (Kd.R_reads' (d := k37) (xs := [m]) (ok := fun _ => True) ⟨fun _ _ => trivial, _, h, Reps.c7 (k37_mkM _ _ _ _) (Reps.none _ _)⟩).2.2
theorem due_same (size wait first now : Int) (n : Nat) (h0 : 0 ≤ now) (h1 : now < 18446744073709551616) (h2 : 0 ≤ first) (h3 : first < 18446744073709551616) (h4 : 0 ≤ wait) (h5 : wait ≤ 8) : dueQ size wait first now n = dueB size wait first now n := by
  have hw : IntKind.u64.wrap wait = wait := by rw [IntKind.wrap_u64]; omega
  rw [dueQ, dueB, hw, due_eq now first wait h0 h1 h2 h3 h4 h5]
set_option maxHeartbeats 4000000 in
set_option maxRecDepth 100000 in
theorem BatchPlays_bad (size wait : Int) (hbad : size < 1 ∨ size > 32 ∨ wait < 0 ∨ wait > 8) (A : Option Addr) (n c : Nat) (w : World) :
    Calls Try.prog 3 #[.int .i64 size, .int .i64 wait, .slice A n c] w fun e w' => e = .returned (.bool true) ∧ Below w.heap.size w w' := by
  have HB := Lib.hid (Below.refl w.heap.size w)
  have HN := Lib.hid (new_bad size wait hbad w)
  by_cases h1 : size < 1
  · clear hbad
    go_enter Try.func3, Try.ntmps3
    go_wp2_with (first
      | (go_at_call 5; (with_reducible refine HN.out.mono ?_); rintro e w1 ⟨rfl, rfl⟩)
      | (go_at_call 6; (with_reducible refine (awake27_walk _).mono ?_); rintro e wA ⟨rfl, hbA⟩; have HB := Lib.hid (below_step HB.out hbA); clear hbA))
    go_ret
    exact ⟨rfl, HB.out⟩
  · by_cases h2 : size > 32
    · clear hbad
      go_enter Try.func3, Try.ntmps3
      go_wp2_with (first
        | (go_at_call 5; (with_reducible refine HN.out.mono ?_); rintro e w1 ⟨rfl, rfl⟩)
        | (go_at_call 6; (with_reducible refine (awake27_walk _).mono ?_); rintro e wA ⟨rfl, hbA⟩; have HB := Lib.hid (below_step HB.out hbA); clear hbA))
      go_ret
      exact ⟨rfl, HB.out⟩
    · by_cases h3 : wait < 0
      · clear hbad
        go_enter Try.func3, Try.ntmps3
        go_wp2_with (first
          | (go_at_call 5; (with_reducible refine HN.out.mono ?_); rintro e w1 ⟨rfl, rfl⟩)
          | (go_at_call 6; (with_reducible refine (awake27_walk _).mono ?_); rintro e wA ⟨rfl, hbA⟩; have HB := Lib.hid (below_step HB.out hbA); clear hbA))
        go_ret
        exact ⟨rfl, HB.out⟩
      · have h4 : wait > 8 := by omega
        clear hbad
        go_enter Try.func3, Try.ntmps3
        go_wp2_with (first
          | (go_at_call 5; (with_reducible refine HN.out.mono ?_); rintro e w1 ⟨rfl, rfl⟩)
          | (go_at_call 6; (with_reducible refine (awake27_walk _).mono ?_); rintro e wA ⟨rfl, hbA⟩; have HB := Lib.hid (below_step HB.out hbA); clear hbA))
        go_ret
        exact ⟨rfl, HB.out⟩

set_option maxHeartbeats 8000000 in
set_option maxRecDepth 100000 in
theorem BatchPlays_good (size wait : Int) (h1 : ¬ size < 1) (h2 : ¬ size > 32) (h3 : ¬ wait < 0) (h4 : ¬ wait > 8) (A : Option Addr) (c : Nat) (L : List S39) (w : World) (hr : Kd.C k39 w A L.length L) (hok : ∀ x ∈ L, (0 ≤ x.f0 ∧ x.f0 < 256) ∧ 0 ≤ x.f2 ∧ x.f2 < 18446744073709551616) :
    Calls Try.prog 3 #[.int .i64 size, .int .i64 wait, .slice A L.length c] w fun e w' => e = .returned (.bool true) ∧ Below w.heap.size w w' := by
  have HN := Lib.hid (new_good size wait h1 h2 h3 h4 w)
  by_cases h60 : L.length > 60
  · have hI : (60 : Int) < (L.length : Int) := by omega
    have HB := Lib.hid (below_alloc (Below.refl w.heap.size w) (.cells #[.int .i64 size, .int .u64 wait, .int .u64 0, .slice none 0 0] 51))
    clear hr hok h60
    go_enter Try.func3, Try.ntmps3
    go_wp2_with (first
      | (go_at_call 5; (with_reducible refine HN.out.mono ?_); rintro e w1 ⟨rfl, rfl⟩)
      | (go_at_call 6; (with_reducible refine (awake27_walk _).mono ?_); rintro e wA ⟨rfl, hbA⟩; have HB := Lib.hid (below_step HB.out hbA); clear hbA))
    go_ret
    exact ⟨rfl, HB.out⟩
  · have hI : ¬ (60 : Int) < (L.length : Int) := by omega
    have hI2 : (L.length : Int) ≤ 60 := by omega
    have HR := Lib.hid hr
    have HOK := Lib.hid hok
    have HS := Lib.hid (bb_start w size wait)
    have H34 : Hid (0 ≤ wait ∧ wait ≤ 8) := Lib.hid ⟨by omega, by omega⟩
    have H12 : Hid (size ≤ 32) := Lib.hid (by omega)
    have b1 : decide (size < 1) = false := decide_eq_false h1
    have b2 : decide (32 < size) = false := decide_eq_false h2
    have b3 : decide (wait < 0) = false := decide_eq_false h3
    have b4 : decide (8 < wait) = false := decide_eq_false h4
    have b5 : decide (60 < (L.length : Int)) = false := decide_eq_false hI
    have hwu : IntKind.u64.wrap wait = wait := by rw [IntKind.wrap_u64]; omega
    clear hr hok h60
    go_enter Try.func3, Try.ntmps3
    go_upto_region 7 with (go_at_call 5; (with_reducible refine HN.out.mono ?_); rintro e w1 ⟨rfl, rfl⟩)
    generalize ((w.alloc _).alloc _) = w2 at HS ⊢
    generalize hq : w.heap.size + 1 = q at HS ⊢
    generalize hb : w.heap.size = b at HS ⊢
    clear h1 h2 h3 h4 HN hq
    go_wp2_with fail
    go_loopw [10] (fun v10 wr => ∃ (i : Nat) (l : List S37) (first : Int) (vb vq : Value), i ≤ L.length ∧ l.length ≤ i ∧ v10 = .int .i64 i ∧ Hid (0 ≤ first ∧ first < 18446744073709551616) ∧ Hid (BB w wr b q size wait first first vb vq l l)) (fun v10 _ => 100 - (intOf v10).toNat)
    case atStart => exact ⟨0, [], 0, _, _, Nat.zero_le _, Nat.le_refl _, rfl, Lib.hid ⟨by decide, by decide⟩, HS⟩
    case round =>
      clear HS
      obtain ⟨i, l, first, vb, vq, hi, hli, rfl, HF, HBB⟩ := hrel
      by_cases h : i < L.length
      · have hlt : (i : Int) < (L.length : Int) := by omega
        have hi0 : (0 : Int) ≤ (i : Int) := by omega
        have hi60 : (i : Int) ≤ 60 := by omega
        obtain ⟨ad, rfl, z0, z1, z2, z3, z4, z5, z6, z7, z8⟩ := at_T39 HR.out i hi0 hlt
        rw [Int.toNat_natCast] at z0 z1 z2 z3 z4 z5 z6 z7 z8
        have hx := HOK.out (rd_T39 L i) (by
          have : rd_T39 L (i : Int) = L[i] := by simp [rd_T39, List.getD_eq_getElem?_getD, h]
          rw [this]
          exact List.getElem_mem h)
        generalize rd_T39 L i = x at z0 z1 z2 z3 z4 z5 z6 z7 z8 hx
        obtain ⟨x0, m, now⟩ := x
        dsimp only at z0 z1 z2 z3 z4 z5 z6 z7 z8 hx
        have HX := Lib.hid hx
        clear hx
        have E0 := Lib.hid z0
        have E1 := Lib.hid z1
        have E2 := Lib.hid z2
        have E3 := Lib.hid z3
        have E4 := Lib.hid z4
        have E5 := Lib.hid z5
        have E6 := Lib.hid z6
        have E7 := Lib.hid z7
        have E8 := Lib.hid z8
        clear z0 z1 z2 z3 z4 z5 z6 z7 z8
        have z0 := (HBB.out.bel.cell (cell_lt E0.out)).trans E0.out
        have z1 := (HBB.out.bel.cell (cell_lt E1.out)).trans E1.out
        have z2 := (HBB.out.bel.cell (cell_lt E2.out)).trans E2.out
        have z3 := (HBB.out.bel.cell (cell_lt E3.out)).trans E3.out
        have z4 := (HBB.out.bel.cell (cell_lt E4.out)).trans E4.out
        have z5 := (HBB.out.bel.cell (cell_lt E5.out)).trans E5.out
        have z6 := (HBB.out.bel.cell (cell_lt E6.out)).trans E6.out
        have z7 := (HBB.out.bel.cell (cell_lt E7.out)).trans E7.out
        have z8 := (HBB.out.bel.cell (cell_lt E8.out)).trans E8.out
        have HFW := Lib.hid (muleteerlaw27_few.calls 3 (some ⟨wr.heap.size, 0, none⟩) 1 [m] (fewM m) _ (msg_C wr m) (Nat.le_refl _) (few_one m))
        have HBA := Lib.hid (below_alloc (Below.refl wr.heap.size wr) (.cells #[.int .i64 m.f0, .int .i64 m.f1.f0, .int .i64 m.f1.f1, .int .u64 m.f1.f2, .int .u64 m.f1.f3, .string m.f1.f4, .string m.f2] 37))
        cases hfew : fewM m
        · rw [hfew] at HFW
          have HFW2 : Hid (Calls Try.prog 7 #[.slice (some ⟨wr.heap.size, 0, none⟩) 1 1] (wr.alloc (.cells #[.int .i64 m.f0, .int .i64 m.f1.f0, .int .i64 m.f1.f1, .int .u64 m.f1.f2, .int .u64 m.f1.f3, .string m.f1.f4, .string m.f2] 37)) fun e w' => e = .returned (.bool false) ∧ Drawn0 (wr.alloc (.cells #[.int .i64 m.f0, .int .i64 m.f1.f0, .int .i64 m.f1.f1, .int .u64 m.f1.f2, .int .u64 m.f1.f3, .string m.f1.f4, .string m.f2] 37)) w') := HFW
          clear hfew
          go_wp2_with (first
            | (go_at_call 7; (with_reducible refine HFW2.out.mono ?_); rintro e w3 ⟨rfl, hd⟩; have HB := Lib.hid (below_step HBB.out.bel (below_step HBA.out hd.below)); clear hd)
            | (go_at_call 6; (with_reducible refine (awake27_walk _).mono ?_); rintro e wA ⟨rfl, hbA⟩; have HB := Lib.hid (below_step HB.out hbA); clear hbA))
          go_ret
          exact ⟨rfl, HB.out⟩
        · rw [hfew] at HFW
          have HFW2 : Hid (Calls Try.prog 7 #[.slice (some ⟨wr.heap.size, 0, none⟩) 1 1] (wr.alloc (.cells #[.int .i64 m.f0, .int .i64 m.f1.f0, .int .i64 m.f1.f1, .int .u64 m.f1.f2, .int .u64 m.f1.f3, .string m.f1.f4, .string m.f2] 37)) fun e w' => e = .returned (.bool true) ∧ Drawn0 (wr.alloc (.cells #[.int .i64 m.f0, .int .i64 m.f1.f0, .int .i64 m.f1.f1, .int .u64 m.f1.f2, .int .u64 m.f1.f3, .string m.f1.f4, .string m.f2] 37)) w') := HFW
          clear hfew
          go_upto_region 12 with (go_at_call 7; (with_reducible refine HFW2.out.mono ?_); rintro e w3 ⟨rfl, hd⟩; have HBB := Lib.hid (HBB.out.step (below_step HBA.out hd.below)); clear z0 z1 z2 z3 z4 z5 z6 z7 z8; have z0 := (HBB.out.bel.cell (cell_lt E0.out)).trans E0.out; have z1 := (HBB.out.bel.cell (cell_lt E1.out)).trans E1.out; have z2 := (HBB.out.bel.cell (cell_lt E2.out)).trans E2.out; have z3 := (HBB.out.bel.cell (cell_lt E3.out)).trans E3.out; have z4 := (HBB.out.bel.cell (cell_lt E4.out)).trans E4.out; have z5 := (HBB.out.bel.cell (cell_lt E5.out)).trans E5.out; have z6 := (HBB.out.bel.cell (cell_lt E6.out)).trans E6.out; have z7 := (HBB.out.bel.cell (cell_lt E7.out)).trans E7.out; have z8 := (HBB.out.bel.cell (cell_lt E8.out)).trans E8.out; clear hd)
          go_step
          iterate 24 go_step
          clear z0 z1 z2 z3 z4 z5 z6 z7 z8
          go_cut [10] (fun v10 wc => v10 = .int .i64 i ∧ ∃ (l' : List S37) (first' : Int) (vb' vq' : Value), l'.length ≤ i + 1 ∧ Hid (0 ≤ first' ∧ first' < 18446744073709551616) ∧ Hid (BB w wc b q size wait first' first' vb' vq' l' l'))
          case first =>
            cases hk : (x0.tmod 4 == 3)
            · have HBB0 := HBB
              have HLM : Hid (l.length ≤ 100) := Lib.hid (by omega)
              have HNL : Hid ((nextL size l m).length ≤ i + 1) := Lib.hid (by unfold nextL; split; rw [List.length_append, List.length_singleton]; omega; omega)
              have HNF : Hid (0 ≤ nextF size first now l m ∧ nextF size first now l m < 18446744073709551616) := Lib.hid (by have h1 := HF.out; have h2 := HX.out.2; unfold nextF; split; split; exact h2; exact h1; exact h1)
              go_upto_region 15 with (fail)
              have z0 := (HBB.out.bel.cell (cell_lt E0.out)).trans E0.out; have z1 := (HBB.out.bel.cell (cell_lt E1.out)).trans E1.out; have z2 := (HBB.out.bel.cell (cell_lt E2.out)).trans E2.out; have z3 := (HBB.out.bel.cell (cell_lt E3.out)).trans E3.out; have z4 := (HBB.out.bel.cell (cell_lt E4.out)).trans E4.out; have z5 := (HBB.out.bel.cell (cell_lt E5.out)).trans E5.out; have z6 := (HBB.out.bel.cell (cell_lt E6.out)).trans E6.out; have z7 := (HBB.out.bel.cell (cell_lt E7.out)).trans E7.out; have z8 := (HBB.out.bel.cell (cell_lt E8.out)).trans E8.out
              refine start_ (n := 25) (S := (fun w' => w'.cell? ⟨(ad.add (i * 9)).block, (ad.add (i * 9)).off + 1, none⟩ = some (.int .i64 m.f0) ∧ w'.cell? ⟨(ad.add (i * 9)).block, (ad.add (i * 9)).off + 2, none⟩ = some (.int .i64 m.f1.f0) ∧ w'.cell? ⟨(ad.add (i * 9)).block, (ad.add (i * 9)).off + 3, none⟩ = some (.int .i64 m.f1.f1) ∧ w'.cell? ⟨(ad.add (i * 9)).block, (ad.add (i * 9)).off + 4, none⟩ = some (.int .u64 m.f1.f2) ∧ w'.cell? ⟨(ad.add (i * 9)).block, (ad.add (i * 9)).off + 5, none⟩ = some (.int .u64 m.f1.f3) ∧ w'.cell? ⟨(ad.add (i * 9)).block, (ad.add (i * 9)).off + 6, none⟩ = some (.string m.f1.f4) ∧ w'.cell? ⟨(ad.add (i * 9)).block, (ad.add (i * 9)).off + 7, none⟩ = some (.string m.f2) ∧ w'.cell? ⟨(ad.add (i * 9)).block, (ad.add (i * 9)).off + 8, none⟩ = some (.int .u64 now))) (ds := []) #[false, false, false, false, false, false, false, false, false, false, false, false, false, false, false, false, false, false, false, false, false, false, false, false, false] (by kernel_rfl) rfl rfl ⟨z1, z2, z3, z4, z5, z6, z7, z8⟩ (fun hHeld => ?_)
              have HBB := Lib.hid (HBB.out.step (below_drew (Below.refl _ _)))
              clear z0 z1 z2 z3 z4 z5 z6 z7 z8
              generalize w3.drew = W at hHeld HBB ⊢
              refine pure_ (i := 0) (N := some 85) (v := ?_) (a' := ?_) #[true, false, false, false, false, false, false, false, false, false, false, false, false, false, false, false, false, false, false, false, false, false, false, false, false] rfl rfl (by kernel_rfl) (fun _ _ _ h => h) (Or.inl ⟨by rfl, ?_⟩) ?_ ?_
              rotate_left
              · intro w'
                go_simp
                with_reducible rfl
              rotate_left
              · simp only [Act.put, List.setIfInBounds_toArray, List.set_cons_zero, List.set_cons_succ, i64_w, i32_w]
                rfl
              refine pure_ (i := 1) (N := some 86) (v := ?_) (a' := ?_) #[true, true, false, false, false, false, false, false, false, false, false, false, false, false, false, false, false, false, false, false, false, false, false, false, false] rfl rfl (by kernel_rfl) (fun _ _ _ h => h) (Or.inl ⟨by rfl, ?_⟩) ?_ ?_
              rotate_left
              · intro w'
                go_simp
                with_reducible rfl
              rotate_left
              · simp only [Act.put, List.setIfInBounds_toArray, List.set_cons_zero, List.set_cons_succ, i64_w, i32_w]
                rfl
              refine pure_ (i := 2) (N := some 87) (v := ?_) (a' := ?_) #[true, true, true, false, false, false, false, false, false, false, false, false, false, false, false, false, false, false, false, false, false, false, false, false, false] rfl rfl (by kernel_rfl) (fun _ _ _ h => h) (Or.inl ⟨by rfl, ?_⟩) ?_ ?_
              rotate_left
              · intro w'
                go_simp
                with_reducible rfl
              rotate_left
              · simp only [Act.put, List.setIfInBounds_toArray, List.set_cons_zero, List.set_cons_succ, i64_w, i32_w]
                rfl
              refine pure_ (i := 3) (N := some 88) (v := ?_) (a' := ?_) #[true, true, true, true, false, false, false, false, false, false, false, false, false, false, false, false, false, false, false, false, false, false, false, false, false] rfl rfl (by kernel_rfl) (fun _ _ _ h => h) (Or.inl ⟨by rfl, ?_⟩) ?_ ?_
              rotate_left
              · intro w'
                go_simp
                with_reducible rfl
              rotate_left
              · simp only [Act.put, List.setIfInBounds_toArray, List.set_cons_zero, List.set_cons_succ, i64_w, i32_w]
                rfl
              refine pure_ (i := 4) (N := some 89) (v := ?_) (a' := ?_) #[true, true, true, true, true, false, false, false, false, false, false, false, false, false, false, false, false, false, false, false, false, false, false, false, false] rfl rfl (by kernel_rfl) (fun _ _ _ h => h) (Or.inl ⟨by rfl, ?_⟩) ?_ ?_
              rotate_left
              · intro w'
                go_simp
                with_reducible rfl
              rotate_left
              · simp only [Act.put, List.setIfInBounds_toArray, List.set_cons_zero, List.set_cons_succ, i64_w, i32_w]
                rfl
              refine take_ (i := 5) (N := some 90) (v := ?_) (a' := ?_) #[true, true, true, true, true, true, false, false, false, false, false, false, false, false, false, false, false, false, false, false, false, false, false, false, false] rfl rfl (by kernel_rfl) (fun _ _ _ h => h) (Or.inl ⟨by rfl, ?_⟩) hHeld ?_ ?_
              rotate_left
              · rintro w' ⟨s0, s1, s2, s3, s4, s5, s6, s7⟩
                go_simp
                with_reducible rfl
              rotate_left
              · simp only [Act.put, List.setIfInBounds_toArray, List.set_cons_zero, List.set_cons_succ, i64_w, i32_w]
                rfl
              refine pure_ (i := 6) (N := some 91) (v := ?_) (a' := ?_) #[true, true, true, true, true, true, true, false, false, false, false, false, false, false, false, false, false, false, false, false, false, false, false, false, false] rfl rfl (by kernel_rfl) (fun _ _ _ h => h) (Or.inl ⟨by rfl, ?_⟩) ?_ ?_
              rotate_left
              · intro w'
                go_simp
                with_reducible rfl
              rotate_left
              · simp only [Act.put, List.setIfInBounds_toArray, List.set_cons_zero, List.set_cons_succ, i64_w, i32_w]
                rfl
              refine pure_ (i := 7) (N := some 92) (v := ?_) (a' := ?_) #[true, true, true, true, true, true, true, true, false, false, false, false, false, false, false, false, false, false, false, false, false, false, false, false, false] rfl rfl (by kernel_rfl) (fun _ _ _ h => h) (Or.inl ⟨by rfl, ?_⟩) ?_ ?_
              rotate_left
              · intro w'
                go_simp
                with_reducible rfl
              rotate_left
              · simp only [Act.put, List.setIfInBounds_toArray, List.set_cons_zero, List.set_cons_succ, i64_w, i32_w]
                rfl
              refine pure_ (i := 8) (N := some 93) (v := ?_) (a' := ?_) #[true, true, true, true, true, true, true, true, true, false, false, false, false, false, false, false, false, false, false, false, false, false, false, false, false] rfl rfl (by kernel_rfl) (fun _ _ _ h => h) (Or.inl ⟨by rfl, ?_⟩) ?_ ?_
              rotate_left
              · intro w'
                go_simp
                with_reducible rfl
              rotate_left
              · simp only [Act.put, List.setIfInBounds_toArray, List.set_cons_zero, List.set_cons_succ, i64_w, i32_w]
                rfl
              refine pure_ (i := 9) (N := some 94) (v := ?_) (a' := ?_) #[true, true, true, true, true, true, true, true, true, true, false, false, false, false, false, false, false, false, false, false, false, false, false, false, false] rfl rfl (by kernel_rfl) (fun _ _ _ h => h) (Or.inl ⟨by rfl, ?_⟩) ?_ ?_
              rotate_left
              · intro w'
                go_simp
                with_reducible rfl
              rotate_left
              · simp only [Act.put, List.setIfInBounds_toArray, List.set_cons_zero, List.set_cons_succ, i64_w, i32_w]
                rfl
              refine take_ (i := 10) (N := some 95) (v := ?_) (a' := ?_) #[true, true, true, true, true, true, true, true, true, true, true, false, false, false, false, false, false, false, false, false, false, false, false, false, false] rfl rfl (by kernel_rfl) (fun _ _ _ h => h) (Or.inl ⟨by rfl, ?_⟩) hHeld ?_ ?_
              rotate_left
              · rintro w' ⟨s0, s1, s2, s3, s4, s5, s6, s7⟩
                go_simp
                with_reducible rfl
              rotate_left
              · simp only [Act.put, List.setIfInBounds_toArray, List.set_cons_zero, List.set_cons_succ, i64_w, i32_w]
                rfl
              refine pure_ (i := 12) (N := some 97) (v := ?_) (a' := ?_) #[true, true, true, true, true, true, true, true, true, true, true, false, true, false, false, false, false, false, false, false, false, false, false, false, false] rfl rfl (by kernel_rfl) (fun _ _ _ h => h) (Or.inl ⟨by rfl, ?_⟩) ?_ ?_
              rotate_left
              · intro w'
                go_simp
                with_reducible rfl
              rotate_left
              · simp only [Act.put, List.setIfInBounds_toArray, List.set_cons_zero, List.set_cons_succ, i64_w, i32_w]
                rfl
              refine pure_ (i := 13) (N := some 98) (v := ?_) (a' := ?_) #[true, true, true, true, true, true, true, true, true, true, true, false, true, true, false, false, false, false, false, false, false, false, false, false, false] rfl rfl (by kernel_rfl) (fun _ _ _ h => h) (Or.inl ⟨by rfl, ?_⟩) ?_ ?_
              rotate_left
              · intro w'
                go_simp
                with_reducible rfl
              rotate_left
              · simp only [Act.put, List.setIfInBounds_toArray, List.set_cons_zero, List.set_cons_succ, i64_w, i32_w]
                rfl
              refine pure_ (i := 14) (N := some 99) (v := ?_) (a' := ?_) #[true, true, true, true, true, true, true, true, true, true, true, false, true, true, true, false, false, false, false, false, false, false, false, false, false] rfl rfl (by kernel_rfl) (fun _ _ _ h => h) (Or.inl ⟨by rfl, ?_⟩) ?_ ?_
              rotate_left
              · intro w'
                go_simp
                with_reducible rfl
              rotate_left
              · simp only [Act.put, List.setIfInBounds_toArray, List.set_cons_zero, List.set_cons_succ, i64_w, i32_w]
                rfl
              refine pure_ (i := 15) (N := some 100) (v := ?_) (a' := ?_) #[true, true, true, true, true, true, true, true, true, true, true, false, true, true, true, true, false, false, false, false, false, false, false, false, false] rfl rfl (by kernel_rfl) (fun _ _ _ h => h) (Or.inl ⟨by rfl, ?_⟩) ?_ ?_
              rotate_left
              · intro w'
                go_simp
                with_reducible rfl
              rotate_left
              · simp only [Act.put, List.setIfInBounds_toArray, List.set_cons_zero, List.set_cons_succ, i64_w, i32_w]
                rfl
              refine pure_ (i := 16) (N := some 101) (v := ?_) (a' := ?_) #[true, true, true, true, true, true, true, true, true, true, true, false, true, true, true, true, true, false, false, false, false, false, false, false, false] rfl rfl (by kernel_rfl) (fun _ _ _ h => h) (Or.inl ⟨by rfl, ?_⟩) ?_ ?_
              rotate_left
              · intro w'
                go_simp
                with_reducible rfl
              rotate_left
              · simp only [Act.put, List.setIfInBounds_toArray, List.set_cons_zero, List.set_cons_succ, i64_w, i32_w]
                rfl
              refine take_ (i := 17) (N := some 102) (v := ?_) (a' := ?_) #[true, true, true, true, true, true, true, true, true, true, true, false, true, true, true, true, true, true, false, false, false, false, false, false, false] rfl rfl (by kernel_rfl) (fun _ _ _ h => h) (Or.inl ⟨by rfl, ?_⟩) hHeld ?_ ?_
              rotate_left
              · rintro w' ⟨s0, s1, s2, s3, s4, s5, s6, s7⟩
                go_simp
                with_reducible rfl
              rotate_left
              · simp only [Act.put, List.setIfInBounds_toArray, List.set_cons_zero, List.set_cons_succ, i64_w, i32_w]
                rfl
              refine pure_ (i := 18) (N := some 103) (v := ?_) (a' := ?_) #[true, true, true, true, true, true, true, true, true, true, true, false, true, true, true, true, true, true, true, false, false, false, false, false, false] rfl rfl (by kernel_rfl) (fun _ _ _ h => h) (Or.inl ⟨by rfl, ?_⟩) ?_ ?_
              rotate_left
              · intro w'
                go_simp
                with_reducible rfl
              rotate_left
              · simp only [Act.put, List.setIfInBounds_toArray, List.set_cons_zero, List.set_cons_succ, i64_w, i32_w]
                rfl
              refine pure_ (i := 19) (N := some 104) (v := ?_) (a' := ?_) #[true, true, true, true, true, true, true, true, true, true, true, false, true, true, true, true, true, true, true, true, false, false, false, false, false] rfl rfl (by kernel_rfl) (fun _ _ _ h => h) (Or.inl ⟨by rfl, ?_⟩) ?_ ?_
              rotate_left
              · intro w'
                go_simp
                with_reducible rfl
              rotate_left
              · simp only [Act.put, List.setIfInBounds_toArray, List.set_cons_zero, List.set_cons_succ, i64_w, i32_w]
                rfl
              refine pure_ (i := 20) (N := some 105) (v := ?_) (a' := ?_) #[true, true, true, true, true, true, true, true, true, true, true, false, true, true, true, true, true, true, true, true, true, false, false, false, false] rfl rfl (by kernel_rfl) (fun _ _ _ h => h) (Or.inl ⟨by rfl, ?_⟩) ?_ ?_
              rotate_left
              · intro w'
                go_simp
                with_reducible rfl
              rotate_left
              · simp only [Act.put, List.setIfInBounds_toArray, List.set_cons_zero, List.set_cons_succ, i64_w, i32_w]
                rfl
              refine pure_ (i := 21) (N := some 106) (v := ?_) (a' := ?_) #[true, true, true, true, true, true, true, true, true, true, true, false, true, true, true, true, true, true, true, true, true, true, false, false, false] rfl rfl (by kernel_rfl) (fun _ _ _ h => h) (Or.inl ⟨by rfl, ?_⟩) ?_ ?_
              rotate_left
              · intro w'
                go_simp
                with_reducible rfl
              rotate_left
              · simp only [Act.put, List.setIfInBounds_toArray, List.set_cons_zero, List.set_cons_succ, i64_w, i32_w]
                rfl
              refine take_ (i := 22) (N := some 107) (v := ?_) (a' := ?_) #[true, true, true, true, true, true, true, true, true, true, true, false, true, true, true, true, true, true, true, true, true, true, true, false, false] rfl rfl (by kernel_rfl) (fun _ _ _ h => h) (Or.inl ⟨by rfl, ?_⟩) hHeld ?_ ?_
              rotate_left
              · rintro w' ⟨s0, s1, s2, s3, s4, s5, s6, s7⟩
                go_simp
                with_reducible rfl
              rotate_left
              · simp only [Act.put, List.setIfInBounds_toArray, List.set_cons_zero, List.set_cons_succ, i64_w, i32_w]
                rfl
              refine one_ (i := 11) (N := some 96) #[true, true, true, true, true, true, true, true, true, true, true, true, true, true, true, true, true, true, true, true, true, true, true, false, false] rfl rfl (by kernel_rfl) (by decide) (fun K hK => ?_)
              refine goes_ Try.func9 (by kernel_rfl) rfl #[.pointer (some ⟨b, 0, none⟩), .agg #[.int .i64 m.f0, .int .i64 m.f1.f0, .int .i64 m.f1.f1, .int .u64 m.f1.f2, .int .u64 m.f1.f3, .string m.f1.f4, .string m.f2], .int .u64 now] (by rfl) rfl rfl (by (try simp only [List.map_toArray, List.map_cons, List.map_nil]); first | done | rfl) ?_
              with_reducible refine (badd_any b w.heap.size size wait first now vb l m HLM.out W HBB.out.bge HBB.out.rb HBB.out.hb).mono ?_
              rintro e W5 ⟨rfl, hp⟩
              refine ⟨_, rfl, ?_⟩
              obtain ⟨vb', hBB⟩ := HBB.out.badd hp
              clear hp HBB
              have HBB := Lib.hid hBB
              clear hBB
              have z0 := (HBB.out.bel.cell (cell_lt E0.out)).trans E0.out; have z1 := (HBB.out.bel.cell (cell_lt E1.out)).trans E1.out; have z2 := (HBB.out.bel.cell (cell_lt E2.out)).trans E2.out; have z3 := (HBB.out.bel.cell (cell_lt E3.out)).trans E3.out; have z4 := (HBB.out.bel.cell (cell_lt E4.out)).trans E4.out; have z5 := (HBB.out.bel.cell (cell_lt E5.out)).trans E5.out; have z6 := (HBB.out.bel.cell (cell_lt E6.out)).trans E6.out; have z7 := (HBB.out.bel.cell (cell_lt E7.out)).trans E7.out; have z8 := (HBB.out.bel.cell (cell_lt E8.out)).trans E8.out
              refine hK.out _ _ ⟨z1, z2, z3, z4, z5, z6, z7, z8⟩ (fun hHeld => ?_)
              clear hK K z0 z1 z2 z3 z4 z5 z6 z7 z8
              refine norm_ (a' := ?_) ?_ ?_
              rotate_left
              · show Act.put _ (some 96) _ = _
                simp only [Act.put, List.setIfInBounds_toArray, List.set_cons_zero, List.set_cons_succ, i64_w, i32_w]
                rfl
              refine one_ (i := 23) (N := some 108) #[true, true, true, true, true, true, true, true, true, true, true, true, true, true, true, true, true, true, true, true, true, true, true, true, false] rfl rfl (by kernel_rfl) (by decide) (fun K hK => ?_)
              refine goes_ Try.func10 (by kernel_rfl) rfl #[.pointer (some ⟨q, 0, none⟩), .agg #[.int .i64 m.f0, .int .i64 m.f1.f0, .int .i64 m.f1.f1, .int .u64 m.f1.f2, .int .u64 m.f1.f3, .string m.f1.f4, .string m.f2], .int .u64 now] (by rfl) rfl rfl (by (try simp only [List.map_toArray, List.map_cons, List.map_nil]); first | done | rfl) ?_
              with_reducible refine (radd_any q w.heap.size size wait first now vq l m HLM.out W5 HBB.out.qge HBB.out.rq HBB.out.hq).mono ?_
              rintro e W6 ⟨rfl, hp⟩
              refine ⟨_, rfl, ?_⟩
              obtain ⟨vq', hBB⟩ := HBB.out.radd hp
              clear hp HBB
              have HBB := Lib.hid hBB
              clear hBB
              have z0 := (HBB.out.bel.cell (cell_lt E0.out)).trans E0.out; have z1 := (HBB.out.bel.cell (cell_lt E1.out)).trans E1.out; have z2 := (HBB.out.bel.cell (cell_lt E2.out)).trans E2.out; have z3 := (HBB.out.bel.cell (cell_lt E3.out)).trans E3.out; have z4 := (HBB.out.bel.cell (cell_lt E4.out)).trans E4.out; have z5 := (HBB.out.bel.cell (cell_lt E5.out)).trans E5.out; have z6 := (HBB.out.bel.cell (cell_lt E6.out)).trans E6.out; have z7 := (HBB.out.bel.cell (cell_lt E7.out)).trans E7.out; have z8 := (HBB.out.bel.cell (cell_lt E8.out)).trans E8.out
              refine hK.out _ _ ⟨z1, z2, z3, z4, z5, z6, z7, z8⟩ (fun hHeld => ?_)
              clear hK K z0 z1 z2 z3 z4 z5 z6 z7 z8
              refine norm_ (a' := ?_) ?_ ?_
              rotate_left
              · show Act.put _ (some 108) _ = _
                simp only [Act.put, List.setIfInBounds_toArray, List.set_cons_zero, List.set_cons_succ, i64_w, i32_w]
                rfl
              refine pure_ (i := 24) (N := some 109) (v := ?_) (a' := ?_) #[true, true, true, true, true, true, true, true, true, true, true, true, true, true, true, true, true, true, true, true, true, true, true, true, true] rfl rfl (by kernel_rfl) (fun _ _ _ h => h) (Or.inl ⟨by rfl, ?_⟩) ?_ ?_
              rotate_left
              · intro w'
                go_simp
                with_reducible rfl
              rotate_left
              · simp only [Act.put, List.setIfInBounds_toArray, List.set_cons_zero, List.set_cons_succ, i64_w, i32_w]
                rfl
              refine done_ (by kernel_rfl) ?_
              go_wp2
              go_meet
              exact ⟨rfl, nextL size l m, nextF size first now l m, _, _, HNL.out, HNF.out, HBB⟩
            · have k3 := blk_cell HBB.out.hq 3
              have f3 := blk_frozen HBB.out.hq 3
              have HCL := Lib.hid (clear_walk b size wait first vb w3 (by obtain ⟨A1, c1, e⟩ := Kd.R_slice HBB.out.rb; exact ⟨_, _, _, e⟩) HBB.out.hb)
              obtain ⟨Aq, cq, rfl⟩ := Kd.R_slice HBB.out.rq
              have HCC := Lib.hid HBB.out.clear
              have hbq := HBB.out.bq
              have k3' : (w3.setCell ⟨b, 3, none⟩ (.slice none 0 0)).cell? ⟨q, 3, none⟩ = _ := blk_cell (blk_far HBB.out.hq (p := ⟨b, 3, none⟩) (Ne.symm hbq) (.slice none 0 0)) 3
              have f3' := blk_frozen (blk_far HBB.out.hq (p := ⟨b, 3, none⟩) (Ne.symm hbq) (.slice none 0 0)) 3
              clear k3 f3 hbq
              go_upto_region 14 with (go_at_call 8; (with_reducible refine HCL.out.mono ?_); rintro e w4 ⟨rfl, hw4⟩)
              rw [hw4] at HCC k3' f3'
              go_wp2
              go_meet
              exact ⟨rfl, [], first, _, _, Nat.zero_le _, HF, HCC⟩
          case rest =>
            clear HBB HF HFW HFW2 HBA
            obtain ⟨rfl, l, first, vb, vq, hli, HF, HBB⟩ := hcut
            obtain ⟨Ab, cb, rfl, hcb, _⟩ := Kd.R_reads HBB.out.rb
            obtain ⟨Aq, cq, rfl, hcq, _⟩ := Kd.R_reads HBB.out.rq
            have HCB := Lib.hid hcb
            have HCQ := Lib.hid hcq
            have hl100 : l.length ≤ 100 := by omega
            have HBS : Hid (∀ w1, BB w w1 b q size wait first first (.slice Ab l.length cb) (.slice Aq l.length cq) l l → Calls Try.prog 13 #[.pointer (some ⟨b, 0, none⟩)] w1 fun e w' => e = .returned (.int .i64 l.length) ∧ w1 = w') := Lib.hid (fun w1 h => len_walk b size wait first Ab l.length cb w1 h.hb)
            obtain ⟨HSV, hHS⟩ : ∃ x, hasM l m = x := ⟨_, rfl⟩
            have HHB : Hid (∀ w1, BB w w1 b q size wait first first (.slice Ab l.length cb) (.slice Aq l.length cq) l l → Calls Try.prog 14 #[.pointer (some ⟨b, 0, none⟩), .agg #[.int .i64 m.f0, .int .i64 m.f1.f0, .int .i64 m.f1.f1, .int .u64 m.f1.f2, .int .u64 m.f1.f3, .string m.f1.f4, .string m.f2]] w1 fun e w' => e = .returned (.bool HSV) ∧ Below w1.heap.size w1 w') := Lib.hid (fun w1 h => by
              have := has_walk b size wait first Ab cb l m hl100 HCB.out w1 (Kd.R_reads' h.rb).2.2 h.hb
              rwa [hHS] at this)
            have HHQ : Hid (∀ w1, BB w w1 b q size wait first first (.slice Ab l.length cb) (.slice Aq l.length cq) l l → Calls Try.prog 15 #[.pointer (some ⟨q, 0, none⟩), .agg #[.int .i64 m.f0, .int .i64 m.f1.f0, .int .i64 m.f1.f1, .int .u64 m.f1.f2, .int .u64 m.f1.f3, .string m.f1.f4, .string m.f2]] w1 fun e w' => e = .returned (.bool HSV) ∧ Below w1.heap.size w1 w') := Lib.hid (fun w1 h => by
              have := rhas_walk q size wait first Aq cq l m hl100 HCQ.out w1 (Kd.R_reads' h.rq).2.2 h.hq
              rwa [hHS] at this)
            obtain ⟨DU, hDU⟩ : ∃ DU : Int → Bool, ∀ t, dueB size wait first t l.length = DU t := ⟨fun t => dueB size wait first t l.length, fun _ => rfl⟩
            have HDB : Hid (∀ t w1, BB w w1 b q size wait first first (.slice Ab l.length cb) (.slice Aq l.length cq) l l → Calls Try.prog 11 #[.pointer (some ⟨b, 0, none⟩), .int .u64 t] w1 fun e w' => e = .returned (.bool (DU t)) ∧ Below w1.heap.size w1 w') := Lib.hid (fun t w1 h => by
              have := due_walk b size wait first t Ab l.length cb w1 h.hb
              rwa [hDU] at this)
            have HDQ : Hid (∀ t w1, 0 ≤ t → t < 18446744073709551616 → BB w w1 b q size wait first first (.slice Ab l.length cb) (.slice Aq l.length cq) l l → Calls Try.prog 12 #[.pointer (some ⟨q, 0, none⟩), .int .u64 t] w1 fun e w' => e = .returned (.bool (DU t)) ∧ Below w1.heap.size w1 w') := Lib.hid (fun t w1 ht0 ht1 h => by
              have := rdue_walk q size wait first t Aq l.length cq w1 h.hq
              rwa [due_same size wait first t l.length ht0 ht1 HF.out.1 HF.out.2 H34.out.1 H34.out.2, hDU] at this)
            clear hHS hDU hcb hcq
            have z0 := (HBB.out.bel.cell (cell_lt E0.out)).trans E0.out
            have z1 := (HBB.out.bel.cell (cell_lt E1.out)).trans E1.out
            have z2 := (HBB.out.bel.cell (cell_lt E2.out)).trans E2.out
            have z3 := (HBB.out.bel.cell (cell_lt E3.out)).trans E3.out
            have z4 := (HBB.out.bel.cell (cell_lt E4.out)).trans E4.out
            have z5 := (HBB.out.bel.cell (cell_lt E5.out)).trans E5.out
            have z6 := (HBB.out.bel.cell (cell_lt E6.out)).trans E6.out
            have z7 := (HBB.out.bel.cell (cell_lt E7.out)).trans E7.out
            have z8 := (HBB.out.bel.cell (cell_lt E8.out)).trans E8.out
            have kq := blk_cell HBB.out.hq 3
            have HNW : Hid (0 ≤ IntKind.u64.wrap (now + wait) ∧ IntKind.u64.wrap (now + wait) < 18446744073709551616) := Lib.hid (by rw [IntKind.wrap_u64]; omega)
            go_upto_region 17 with (fail)
            refine start_ (n := 65) (S := (fun w' => w'.cell? ⟨(ad.add (i * 9)).block, (ad.add (i * 9)).off + 1, none⟩ = some (.int .i64 m.f0) ∧ w'.cell? ⟨(ad.add (i * 9)).block, (ad.add (i * 9)).off + 2, none⟩ = some (.int .i64 m.f1.f0) ∧ w'.cell? ⟨(ad.add (i * 9)).block, (ad.add (i * 9)).off + 3, none⟩ = some (.int .i64 m.f1.f1) ∧ w'.cell? ⟨(ad.add (i * 9)).block, (ad.add (i * 9)).off + 4, none⟩ = some (.int .u64 m.f1.f2) ∧ w'.cell? ⟨(ad.add (i * 9)).block, (ad.add (i * 9)).off + 5, none⟩ = some (.int .u64 m.f1.f3) ∧ w'.cell? ⟨(ad.add (i * 9)).block, (ad.add (i * 9)).off + 6, none⟩ = some (.string m.f1.f4) ∧ w'.cell? ⟨(ad.add (i * 9)).block, (ad.add (i * 9)).off + 7, none⟩ = some (.string m.f2) ∧ w'.cell? ⟨(ad.add (i * 9)).block, (ad.add (i * 9)).off + 8, none⟩ = some (.int .u64 now) ∧ w'.cell? ⟨q, 3, none⟩ = some (.slice Aq l.length cq))) (ds := []) (List.toArray (false :: false :: false :: false :: false :: false :: false :: false :: false :: false :: false :: false :: false :: false :: false :: false :: false :: false :: false :: false :: false :: false :: false :: false :: false :: false :: false :: false :: false :: false :: false :: false :: false :: false :: false :: false :: false :: false :: false :: false :: false :: false :: false :: false :: false :: false :: false :: false :: false :: false :: false :: false :: false :: false :: false :: false :: false :: false :: false :: false :: false :: false :: false :: false :: false :: [])) (by as_aux_lemma => kernel_rfl) rfl rfl ⟨z1, z2, z3, z4, z5, z6, z7, z8, kq⟩ (fun hHeld => ?_)
            have HBB := Lib.hid (HBB.out.step (below_drew (Below.refl _ _)))
            clear kq z0 z1 z2 z3 z4 z5 z6 z7 z8
            generalize World.drew _ = W0 at hHeld HBB ⊢
            refine pure_ (i := 0) (N := some 110) (v := ?_) (a' := ?_) (List.toArray (true :: false :: false :: false :: false :: false :: false :: false :: false :: false :: false :: false :: false :: false :: false :: false :: false :: false :: false :: false :: false :: false :: false :: false :: false :: false :: false :: false :: false :: false :: false :: false :: false :: false :: false :: false :: false :: false :: false :: false :: false :: false :: false :: false :: false :: false :: false :: false :: false :: false :: false :: false :: false :: false :: false :: false :: false :: false :: false :: false :: false :: false :: false :: false :: false :: [])) rfl rfl (by as_aux_lemma => kernel_rfl) (fun _ _ _ h => h) (Or.inl ⟨by rfl, ?_⟩) ?_ ?_
            rotate_left
            · intro w'
              go_simp
              with_reducible rfl
            rotate_left
            · simp only [Act.put, List.setIfInBounds_toArray, List.set_cons_zero, List.set_cons_succ, i64_w, i32_w]
              rfl
            refine pure_ (i := 1) (N := some 111) (v := ?_) (a' := ?_) (List.toArray (true :: true :: false :: false :: false :: false :: false :: false :: false :: false :: false :: false :: false :: false :: false :: false :: false :: false :: false :: false :: false :: false :: false :: false :: false :: false :: false :: false :: false :: false :: false :: false :: false :: false :: false :: false :: false :: false :: false :: false :: false :: false :: false :: false :: false :: false :: false :: false :: false :: false :: false :: false :: false :: false :: false :: false :: false :: false :: false :: false :: false :: false :: false :: false :: false :: [])) rfl rfl (by as_aux_lemma => kernel_rfl) (fun _ _ _ h => h) (Or.inl ⟨by rfl, ?_⟩) ?_ ?_
            rotate_left
            · intro w'
              go_simp
              with_reducible rfl
            rotate_left
            · simp only [Act.put, List.setIfInBounds_toArray, List.set_cons_zero, List.set_cons_succ, i64_w, i32_w]
              rfl
            refine pure_ (i := 2) (N := some 112) (v := ?_) (a' := ?_) (List.toArray (true :: true :: true :: false :: false :: false :: false :: false :: false :: false :: false :: false :: false :: false :: false :: false :: false :: false :: false :: false :: false :: false :: false :: false :: false :: false :: false :: false :: false :: false :: false :: false :: false :: false :: false :: false :: false :: false :: false :: false :: false :: false :: false :: false :: false :: false :: false :: false :: false :: false :: false :: false :: false :: false :: false :: false :: false :: false :: false :: false :: false :: false :: false :: false :: false :: [])) rfl rfl (by as_aux_lemma => kernel_rfl) (fun _ _ _ h => h) (Or.inl ⟨by rfl, ?_⟩) ?_ ?_
            rotate_left
            · intro w'
              go_simp
              with_reducible rfl
            rotate_left
            · simp only [Act.put, List.setIfInBounds_toArray, List.set_cons_zero, List.set_cons_succ, i64_w, i32_w]
              rfl
            refine pure_ (i := 3) (N := some 113) (v := ?_) (a' := ?_) (List.toArray (true :: true :: true :: true :: false :: false :: false :: false :: false :: false :: false :: false :: false :: false :: false :: false :: false :: false :: false :: false :: false :: false :: false :: false :: false :: false :: false :: false :: false :: false :: false :: false :: false :: false :: false :: false :: false :: false :: false :: false :: false :: false :: false :: false :: false :: false :: false :: false :: false :: false :: false :: false :: false :: false :: false :: false :: false :: false :: false :: false :: false :: false :: false :: false :: false :: [])) rfl rfl (by as_aux_lemma => kernel_rfl) (fun _ _ _ h => h) (Or.inl ⟨by rfl, ?_⟩) ?_ ?_
            rotate_left
            · intro w'
              go_simp
              with_reducible rfl
            rotate_left
            · simp only [Act.put, List.setIfInBounds_toArray, List.set_cons_zero, List.set_cons_succ, i64_w, i32_w]
              rfl
            refine pure_ (i := 4) (N := some 114) (v := ?_) (a' := ?_) (List.toArray (true :: true :: true :: true :: true :: false :: false :: false :: false :: false :: false :: false :: false :: false :: false :: false :: false :: false :: false :: false :: false :: false :: false :: false :: false :: false :: false :: false :: false :: false :: false :: false :: false :: false :: false :: false :: false :: false :: false :: false :: false :: false :: false :: false :: false :: false :: false :: false :: false :: false :: false :: false :: false :: false :: false :: false :: false :: false :: false :: false :: false :: false :: false :: false :: false :: [])) rfl rfl (by as_aux_lemma => kernel_rfl) (fun _ _ _ h => h) (Or.inl ⟨by rfl, ?_⟩) ?_ ?_
            rotate_left
            · intro w'
              go_simp
              with_reducible rfl
            rotate_left
            · simp only [Act.put, List.setIfInBounds_toArray, List.set_cons_zero, List.set_cons_succ, i64_w, i32_w]
              rfl
            refine take_ (i := 5) (N := some 115) (v := ?_) (a' := ?_) (List.toArray (true :: true :: true :: true :: true :: true :: false :: false :: false :: false :: false :: false :: false :: false :: false :: false :: false :: false :: false :: false :: false :: false :: false :: false :: false :: false :: false :: false :: false :: false :: false :: false :: false :: false :: false :: false :: false :: false :: false :: false :: false :: false :: false :: false :: false :: false :: false :: false :: false :: false :: false :: false :: false :: false :: false :: false :: false :: false :: false :: false :: false :: false :: false :: false :: false :: [])) rfl rfl (by as_aux_lemma => kernel_rfl) (fun _ _ _ h => h) (Or.inl ⟨by rfl, ?_⟩) hHeld ?_ ?_
            rotate_left
            · rintro w' ⟨s0, s1, s2, s3, s4, s5, s6, s7, s8⟩
              go_simp
              with_reducible rfl
            rotate_left
            · simp only [Act.put, List.setIfInBounds_toArray, List.set_cons_zero, List.set_cons_succ, i64_w, i32_w]
              rfl
            refine pure_ (i := 7) (N := some 117) (v := ?_) (a' := ?_) (List.toArray (true :: true :: true :: true :: true :: true :: false :: true :: false :: false :: false :: false :: false :: false :: false :: false :: false :: false :: false :: false :: false :: false :: false :: false :: false :: false :: false :: false :: false :: false :: false :: false :: false :: false :: false :: false :: false :: false :: false :: false :: false :: false :: false :: false :: false :: false :: false :: false :: false :: false :: false :: false :: false :: false :: false :: false :: false :: false :: false :: false :: false :: false :: false :: false :: false :: [])) rfl rfl (by as_aux_lemma => kernel_rfl) (fun _ _ _ h => h) (Or.inl ⟨by rfl, ?_⟩) ?_ ?_
            rotate_left
            · intro w'
              go_simp
              with_reducible rfl
            rotate_left
            · simp only [Act.put, List.setIfInBounds_toArray, List.set_cons_zero, List.set_cons_succ, i64_w, i32_w]
              rfl
            refine pure_ (i := 8) (N := some 118) (v := ?_) (a' := ?_) (List.toArray (true :: true :: true :: true :: true :: true :: false :: true :: true :: false :: false :: false :: false :: false :: false :: false :: false :: false :: false :: false :: false :: false :: false :: false :: false :: false :: false :: false :: false :: false :: false :: false :: false :: false :: false :: false :: false :: false :: false :: false :: false :: false :: false :: false :: false :: false :: false :: false :: false :: false :: false :: false :: false :: false :: false :: false :: false :: false :: false :: false :: false :: false :: false :: false :: false :: [])) rfl rfl (by as_aux_lemma => kernel_rfl) (fun _ _ _ h => h) (Or.inl ⟨by rfl, ?_⟩) ?_ ?_
            rotate_left
            · intro w'
              go_simp
              with_reducible rfl
            rotate_left
            · simp only [Act.put, List.setIfInBounds_toArray, List.set_cons_zero, List.set_cons_succ, i64_w, i32_w]
              rfl
            refine pure_ (i := 9) (N := some 119) (v := ?_) (a' := ?_) (List.toArray (true :: true :: true :: true :: true :: true :: false :: true :: true :: true :: false :: false :: false :: false :: false :: false :: false :: false :: false :: false :: false :: false :: false :: false :: false :: false :: false :: false :: false :: false :: false :: false :: false :: false :: false :: false :: false :: false :: false :: false :: false :: false :: false :: false :: false :: false :: false :: false :: false :: false :: false :: false :: false :: false :: false :: false :: false :: false :: false :: false :: false :: false :: false :: false :: false :: [])) rfl rfl (by as_aux_lemma => kernel_rfl) (fun _ _ _ h => h) (Or.inl ⟨by rfl, ?_⟩) ?_ ?_
            rotate_left
            · intro w'
              go_simp
              with_reducible rfl
            rotate_left
            · simp only [Act.put, List.setIfInBounds_toArray, List.set_cons_zero, List.set_cons_succ, i64_w, i32_w]
              rfl
            refine pure_ (i := 10) (N := some 120) (v := ?_) (a' := ?_) (List.toArray (true :: true :: true :: true :: true :: true :: false :: true :: true :: true :: true :: false :: false :: false :: false :: false :: false :: false :: false :: false :: false :: false :: false :: false :: false :: false :: false :: false :: false :: false :: false :: false :: false :: false :: false :: false :: false :: false :: false :: false :: false :: false :: false :: false :: false :: false :: false :: false :: false :: false :: false :: false :: false :: false :: false :: false :: false :: false :: false :: false :: false :: false :: false :: false :: false :: [])) rfl rfl (by as_aux_lemma => kernel_rfl) (fun _ _ _ h => h) (Or.inl ⟨by rfl, ?_⟩) ?_ ?_
            rotate_left
            · intro w'
              go_simp
              with_reducible rfl
            rotate_left
            · simp only [Act.put, List.setIfInBounds_toArray, List.set_cons_zero, List.set_cons_succ, i64_w, i32_w]
              rfl
            refine pure_ (i := 11) (N := some 121) (v := ?_) (a' := ?_) (List.toArray (true :: true :: true :: true :: true :: true :: false :: true :: true :: true :: true :: true :: false :: false :: false :: false :: false :: false :: false :: false :: false :: false :: false :: false :: false :: false :: false :: false :: false :: false :: false :: false :: false :: false :: false :: false :: false :: false :: false :: false :: false :: false :: false :: false :: false :: false :: false :: false :: false :: false :: false :: false :: false :: false :: false :: false :: false :: false :: false :: false :: false :: false :: false :: false :: false :: [])) rfl rfl (by as_aux_lemma => kernel_rfl) (fun _ _ _ h => h) (Or.inl ⟨by rfl, ?_⟩) ?_ ?_
            rotate_left
            · intro w'
              go_simp
              with_reducible rfl
            rotate_left
            · simp only [Act.put, List.setIfInBounds_toArray, List.set_cons_zero, List.set_cons_succ, i64_w, i32_w]
              rfl
            refine take_ (i := 12) (N := some 122) (v := ?_) (a' := ?_) (List.toArray (true :: true :: true :: true :: true :: true :: false :: true :: true :: true :: true :: true :: true :: false :: false :: false :: false :: false :: false :: false :: false :: false :: false :: false :: false :: false :: false :: false :: false :: false :: false :: false :: false :: false :: false :: false :: false :: false :: false :: false :: false :: false :: false :: false :: false :: false :: false :: false :: false :: false :: false :: false :: false :: false :: false :: false :: false :: false :: false :: false :: false :: false :: false :: false :: false :: [])) rfl rfl (by as_aux_lemma => kernel_rfl) (fun _ _ _ h => h) (Or.inl ⟨by rfl, ?_⟩) hHeld ?_ ?_
            rotate_left
            · rintro w' ⟨s0, s1, s2, s3, s4, s5, s6, s7, s8⟩
              go_simp
              with_reducible rfl
            rotate_left
            · simp only [Act.put, List.setIfInBounds_toArray, List.set_cons_zero, List.set_cons_succ, i64_w, i32_w]
              rfl
            refine one_ (i := 6) (N := some 116) (List.toArray (true :: true :: true :: true :: true :: true :: true :: true :: true :: true :: true :: true :: true :: false :: false :: false :: false :: false :: false :: false :: false :: false :: false :: false :: false :: false :: false :: false :: false :: false :: false :: false :: false :: false :: false :: false :: false :: false :: false :: false :: false :: false :: false :: false :: false :: false :: false :: false :: false :: false :: false :: false :: false :: false :: false :: false :: false :: false :: false :: false :: false :: false :: false :: false :: false :: [])) rfl rfl (by as_aux_lemma => kernel_rfl) (by decide) (fun K hK => ?_)
            refine goes_ Try.func11 (by as_aux_lemma => kernel_rfl) rfl #[.pointer (some ⟨b, 0, none⟩), .int .u64 now] (by rfl) rfl rfl (by (try simp only [List.map_toArray, List.map_cons, List.map_nil]); first | done | rfl) ?_
            with_reducible refine (HDB.out _ _ HBB.out).mono ?_
            rintro e W1 ⟨rfl, h5⟩
            refine ⟨_, rfl, ?_⟩
            have HBB := Lib.hid (HBB.out.step h5)
            clear h5
            have z0 := (HBB.out.bel.cell (cell_lt E0.out)).trans E0.out; have z1 := (HBB.out.bel.cell (cell_lt E1.out)).trans E1.out; have z2 := (HBB.out.bel.cell (cell_lt E2.out)).trans E2.out; have z3 := (HBB.out.bel.cell (cell_lt E3.out)).trans E3.out; have z4 := (HBB.out.bel.cell (cell_lt E4.out)).trans E4.out; have z5 := (HBB.out.bel.cell (cell_lt E5.out)).trans E5.out; have z6 := (HBB.out.bel.cell (cell_lt E6.out)).trans E6.out; have z7 := (HBB.out.bel.cell (cell_lt E7.out)).trans E7.out; have z8 := (HBB.out.bel.cell (cell_lt E8.out)).trans E8.out
            have kq := blk_cell HBB.out.hq 3
            refine hK.out _ _ ⟨z1, z2, z3, z4, z5, z6, z7, z8, kq⟩ (fun hHeld => ?_)
            clear hK K kq z0 z1 z2 z3 z4 z5 z6 z7 z8
            refine norm_ (a' := ?_) ?_ ?_
            rotate_left
            · show Act.put _ (some 116) _ = _
              simp only [Act.put, List.setIfInBounds_toArray, List.set_cons_zero, List.set_cons_succ, i64_w, i32_w]
              rfl
            as_aux_lemma =>
              refine one_ (i := 13) (N := some 123) (List.toArray (true :: true :: true :: true :: true :: true :: true :: true :: true :: true :: true :: true :: true :: true :: false :: false :: false :: false :: false :: false :: false :: false :: false :: false :: false :: false :: false :: false :: false :: false :: false :: false :: false :: false :: false :: false :: false :: false :: false :: false :: false :: false :: false :: false :: false :: false :: false :: false :: false :: false :: false :: false :: false :: false :: false :: false :: false :: false :: false :: false :: false :: false :: false :: false :: false :: [])) rfl rfl (by as_aux_lemma => kernel_rfl) (by decide) (fun K hK => ?_)
              refine goes_ Try.func12 (by as_aux_lemma => kernel_rfl) rfl #[.pointer (some ⟨q, 0, none⟩), .int .u64 now] (by rfl) rfl rfl (by (try simp only [List.map_toArray, List.map_cons, List.map_nil]); first | done | rfl) ?_
              with_reducible refine (HDQ.out _ _ HX.out.2.1 HX.out.2.2 HBB.out).mono ?_
              rintro e W1 ⟨rfl, h5⟩
              refine ⟨_, rfl, ?_⟩
              have HBB := Lib.hid (HBB.out.step h5)
              clear h5
              have z0 := (HBB.out.bel.cell (cell_lt E0.out)).trans E0.out; have z1 := (HBB.out.bel.cell (cell_lt E1.out)).trans E1.out; have z2 := (HBB.out.bel.cell (cell_lt E2.out)).trans E2.out; have z3 := (HBB.out.bel.cell (cell_lt E3.out)).trans E3.out; have z4 := (HBB.out.bel.cell (cell_lt E4.out)).trans E4.out; have z5 := (HBB.out.bel.cell (cell_lt E5.out)).trans E5.out; have z6 := (HBB.out.bel.cell (cell_lt E6.out)).trans E6.out; have z7 := (HBB.out.bel.cell (cell_lt E7.out)).trans E7.out; have z8 := (HBB.out.bel.cell (cell_lt E8.out)).trans E8.out
              have kq := blk_cell HBB.out.hq 3
              refine hK.out _ _ ⟨z1, z2, z3, z4, z5, z6, z7, z8, kq⟩ (fun hHeld => ?_)
              clear hK K kq z0 z1 z2 z3 z4 z5 z6 z7 z8
              refine norm_ (a' := ?_) ?_ ?_
              rotate_left
              · show Act.put _ (some 123) _ = _
                simp only [Act.put, List.setIfInBounds_toArray, List.set_cons_zero, List.set_cons_succ, i64_w, i32_w]
                rfl
              as_aux_lemma =>
                refine pure_ (i := 14) (N := some 124) (v := ?_) (a' := ?_) (List.toArray (true :: true :: true :: true :: true :: true :: true :: true :: true :: true :: true :: true :: true :: true :: true :: false :: false :: false :: false :: false :: false :: false :: false :: false :: false :: false :: false :: false :: false :: false :: false :: false :: false :: false :: false :: false :: false :: false :: false :: false :: false :: false :: false :: false :: false :: false :: false :: false :: false :: false :: false :: false :: false :: false :: false :: false :: false :: false :: false :: false :: false :: false :: false :: false :: false :: [])) rfl rfl (by as_aux_lemma => kernel_rfl) (fun _ _ _ h => h) (Or.inl ⟨by rfl, ?_⟩) ?_ ?_
                rotate_left
                · intro w'
                  go_simp
                  with_reducible rfl
                rotate_left
                · simp only [Act.put, List.setIfInBounds_toArray, List.set_cons_zero, List.set_cons_succ, i64_w, i32_w]
                  rfl
                refine pure_ (i := 15) (N := some 125) (v := ?_) (a' := ?_) (List.toArray (true :: true :: true :: true :: true :: true :: true :: true :: true :: true :: true :: true :: true :: true :: true :: true :: false :: false :: false :: false :: false :: false :: false :: false :: false :: false :: false :: false :: false :: false :: false :: false :: false :: false :: false :: false :: false :: false :: false :: false :: false :: false :: false :: false :: false :: false :: false :: false :: false :: false :: false :: false :: false :: false :: false :: false :: false :: false :: false :: false :: false :: false :: false :: false :: false :: [])) rfl rfl (by as_aux_lemma => kernel_rfl) (fun _ _ _ h => h) (Or.inl ⟨by rfl, ?_⟩) ?_ ?_
                rotate_left
                · intro w'
                  go_simp
                  with_reducible rfl
                rotate_left
                · simp only [Act.put, List.setIfInBounds_toArray, List.set_cons_zero, List.set_cons_succ, i64_w, i32_w]
                  rfl
                refine pure_ (i := 16) (N := some 126) (v := ?_) (a' := ?_) (List.toArray (true :: true :: true :: true :: true :: true :: true :: true :: true :: true :: true :: true :: true :: true :: true :: true :: true :: false :: false :: false :: false :: false :: false :: false :: false :: false :: false :: false :: false :: false :: false :: false :: false :: false :: false :: false :: false :: false :: false :: false :: false :: false :: false :: false :: false :: false :: false :: false :: false :: false :: false :: false :: false :: false :: false :: false :: false :: false :: false :: false :: false :: false :: false :: false :: false :: [])) rfl rfl (by as_aux_lemma => kernel_rfl) (fun _ _ _ h => h) (Or.inl ⟨by rfl, ?_⟩) ?_ ?_
                rotate_left
                · intro w'
                  go_simp
                  with_reducible rfl
                rotate_left
                · simp only [Act.put, List.setIfInBounds_toArray, List.set_cons_zero, List.set_cons_succ, i64_w, i32_w]
                  rfl
                refine pure_ (i := 17) (N := some 127) (v := ?_) (a' := ?_) (List.toArray (true :: true :: true :: true :: true :: true :: true :: true :: true :: true :: true :: true :: true :: true :: true :: true :: true :: true :: false :: false :: false :: false :: false :: false :: false :: false :: false :: false :: false :: false :: false :: false :: false :: false :: false :: false :: false :: false :: false :: false :: false :: false :: false :: false :: false :: false :: false :: false :: false :: false :: false :: false :: false :: false :: false :: false :: false :: false :: false :: false :: false :: false :: false :: false :: false :: [])) rfl rfl (by as_aux_lemma => kernel_rfl) (fun _ _ _ h => h) (Or.inl ⟨by rfl, ?_⟩) ?_ ?_
                rotate_left
                · intro w'
                  go_simp
                  with_reducible rfl
                rotate_left
                · simp only [Act.put, List.setIfInBounds_toArray, List.set_cons_zero, List.set_cons_succ, i64_w, i32_w]
                  rfl
                refine pure_ (i := 18) (N := some 128) (v := ?_) (a' := ?_) (List.toArray (true :: true :: true :: true :: true :: true :: true :: true :: true :: true :: true :: true :: true :: true :: true :: true :: true :: true :: true :: false :: false :: false :: false :: false :: false :: false :: false :: false :: false :: false :: false :: false :: false :: false :: false :: false :: false :: false :: false :: false :: false :: false :: false :: false :: false :: false :: false :: false :: false :: false :: false :: false :: false :: false :: false :: false :: false :: false :: false :: false :: false :: false :: false :: false :: false :: [])) rfl rfl (by as_aux_lemma => kernel_rfl) (fun _ _ _ h => h) (Or.inl ⟨by rfl, ?_⟩) ?_ ?_
                rotate_left
                · intro w'
                  go_simp
                  with_reducible rfl
                rotate_left
                · simp only [Act.put, List.setIfInBounds_toArray, List.set_cons_zero, List.set_cons_succ, i64_w, i32_w]
                  rfl
                refine pure_ (i := 19) (N := some 129) (v := ?_) (a' := ?_) (List.toArray (true :: true :: true :: true :: true :: true :: true :: true :: true :: true :: true :: true :: true :: true :: true :: true :: true :: true :: true :: true :: false :: false :: false :: false :: false :: false :: false :: false :: false :: false :: false :: false :: false :: false :: false :: false :: false :: false :: false :: false :: false :: false :: false :: false :: false :: false :: false :: false :: false :: false :: false :: false :: false :: false :: false :: false :: false :: false :: false :: false :: false :: false :: false :: false :: false :: [])) rfl rfl (by as_aux_lemma => kernel_rfl) (fun _ _ _ h => h) (Or.inl ⟨by rfl, ?_⟩) ?_ ?_
                rotate_left
                · intro w'
                  go_simp
                  with_reducible rfl
                rotate_left
                · simp only [Act.put, List.setIfInBounds_toArray, List.set_cons_zero, List.set_cons_succ, i64_w, i32_w]
                  rfl
                refine pure_ (i := 20) (N := some 130) (v := ?_) (a' := ?_) (List.toArray (true :: true :: true :: true :: true :: true :: true :: true :: true :: true :: true :: true :: true :: true :: true :: true :: true :: true :: true :: true :: true :: false :: false :: false :: false :: false :: false :: false :: false :: false :: false :: false :: false :: false :: false :: false :: false :: false :: false :: false :: false :: false :: false :: false :: false :: false :: false :: false :: false :: false :: false :: false :: false :: false :: false :: false :: false :: false :: false :: false :: false :: false :: false :: false :: false :: [])) rfl rfl (by as_aux_lemma => kernel_rfl) (fun _ _ _ h => h) (Or.inl ⟨by rfl, ?_⟩) ?_ ?_
                rotate_left
                · intro w'
                  go_simp
                  with_reducible rfl
                rotate_left
                · simp only [Act.put, List.setIfInBounds_toArray, List.set_cons_zero, List.set_cons_succ, i64_w, i32_w]
                  rfl
                refine take_ (i := 21) (N := some 131) (v := ?_) (a' := ?_) (List.toArray (true :: true :: true :: true :: true :: true :: true :: true :: true :: true :: true :: true :: true :: true :: true :: true :: true :: true :: true :: true :: true :: true :: false :: false :: false :: false :: false :: false :: false :: false :: false :: false :: false :: false :: false :: false :: false :: false :: false :: false :: false :: false :: false :: false :: false :: false :: false :: false :: false :: false :: false :: false :: false :: false :: false :: false :: false :: false :: false :: false :: false :: false :: false :: false :: false :: [])) rfl rfl (by as_aux_lemma => kernel_rfl) (fun _ _ _ h => h) (Or.inl ⟨by rfl, ?_⟩) hHeld ?_ ?_
                rotate_left
                · rintro w' ⟨s0, s1, s2, s3, s4, s5, s6, s7, s8⟩
                  go_simp
                  with_reducible rfl
                rotate_left
                · simp only [Act.put, List.setIfInBounds_toArray, List.set_cons_zero, List.set_cons_succ, i64_w, i32_w]
                  rfl
                refine pure_ (i := 22) (N := some 132) (v := ?_) (a' := ?_) (List.toArray (true :: true :: true :: true :: true :: true :: true :: true :: true :: true :: true :: true :: true :: true :: true :: true :: true :: true :: true :: true :: true :: true :: true :: false :: false :: false :: false :: false :: false :: false :: false :: false :: false :: false :: false :: false :: false :: false :: false :: false :: false :: false :: false :: false :: false :: false :: false :: false :: false :: false :: false :: false :: false :: false :: false :: false :: false :: false :: false :: false :: false :: false :: false :: false :: false :: [])) rfl rfl (by as_aux_lemma => kernel_rfl) (fun _ _ _ h => h) (Or.inl ⟨by rfl, ?_⟩) ?_ ?_
                rotate_left
                · intro w'
                  go_simp
                  with_reducible rfl
                rotate_left
                · simp only [Act.put, List.setIfInBounds_toArray, List.set_cons_zero, List.set_cons_succ, i64_w, i32_w]
                  rfl
                refine pure_ (i := 23) (N := some 133) (v := ?_) (a' := ?_) (List.toArray (true :: true :: true :: true :: true :: true :: true :: true :: true :: true :: true :: true :: true :: true :: true :: true :: true :: true :: true :: true :: true :: true :: true :: true :: false :: false :: false :: false :: false :: false :: false :: false :: false :: false :: false :: false :: false :: false :: false :: false :: false :: false :: false :: false :: false :: false :: false :: false :: false :: false :: false :: false :: false :: false :: false :: false :: false :: false :: false :: false :: false :: false :: false :: false :: false :: [])) rfl rfl (by as_aux_lemma => kernel_rfl) (fun _ _ _ h => h) (Or.inl ⟨by rfl, ?_⟩) ?_ ?_
                rotate_left
                · intro w'
                  go_simp
                  with_reducible rfl
                rotate_left
                · simp only [Act.put, List.setIfInBounds_toArray, List.set_cons_zero, List.set_cons_succ, i64_w, i32_w]
                  rfl
                refine pure_ (i := 24) (N := some 134) (v := ?_) (a' := ?_) (List.toArray (true :: true :: true :: true :: true :: true :: true :: true :: true :: true :: true :: true :: true :: true :: true :: true :: true :: true :: true :: true :: true :: true :: true :: true :: true :: false :: false :: false :: false :: false :: false :: false :: false :: false :: false :: false :: false :: false :: false :: false :: false :: false :: false :: false :: false :: false :: false :: false :: false :: false :: false :: false :: false :: false :: false :: false :: false :: false :: false :: false :: false :: false :: false :: false :: false :: [])) rfl rfl (by as_aux_lemma => kernel_rfl) (fun _ _ _ h => h) (Or.inl ⟨by rfl, ?_⟩) ?_ ?_
                rotate_left
                · intro w'
                  go_simp
                  with_reducible rfl
                rotate_left
                · simp only [Act.put, List.setIfInBounds_toArray, List.set_cons_zero, List.set_cons_succ, i64_w, i32_w]
                  rfl
                refine pure_ (i := 26) (N := some 136) (v := ?_) (a' := ?_) (List.toArray (true :: true :: true :: true :: true :: true :: true :: true :: true :: true :: true :: true :: true :: true :: true :: true :: true :: true :: true :: true :: true :: true :: true :: true :: true :: false :: true :: false :: false :: false :: false :: false :: false :: false :: false :: false :: false :: false :: false :: false :: false :: false :: false :: false :: false :: false :: false :: false :: false :: false :: false :: false :: false :: false :: false :: false :: false :: false :: false :: false :: false :: false :: false :: false :: false :: [])) rfl rfl (by as_aux_lemma => kernel_rfl) (fun _ _ _ h => h) (Or.inl ⟨by rfl, ?_⟩) ?_ ?_
                rotate_left
                · intro w'
                  go_simp
                  with_reducible rfl
                rotate_left
                · simp only [Act.put, List.setIfInBounds_toArray, List.set_cons_zero, List.set_cons_succ, i64_w, i32_w]
                  rfl
                refine pure_ (i := 27) (N := some 137) (v := ?_) (a' := ?_) (List.toArray (true :: true :: true :: true :: true :: true :: true :: true :: true :: true :: true :: true :: true :: true :: true :: true :: true :: true :: true :: true :: true :: true :: true :: true :: true :: false :: true :: true :: false :: false :: false :: false :: false :: false :: false :: false :: false :: false :: false :: false :: false :: false :: false :: false :: false :: false :: false :: false :: false :: false :: false :: false :: false :: false :: false :: false :: false :: false :: false :: false :: false :: false :: false :: false :: false :: [])) rfl rfl (by as_aux_lemma => kernel_rfl) (fun _ _ _ h => h) (Or.inl ⟨by rfl, ?_⟩) ?_ ?_
                rotate_left
                · intro w'
                  go_simp
                  with_reducible rfl
                rotate_left
                · simp only [Act.put, List.setIfInBounds_toArray, List.set_cons_zero, List.set_cons_succ, i64_w, i32_w]
                  rfl
                refine pure_ (i := 28) (N := some 138) (v := ?_) (a' := ?_) (List.toArray (true :: true :: true :: true :: true :: true :: true :: true :: true :: true :: true :: true :: true :: true :: true :: true :: true :: true :: true :: true :: true :: true :: true :: true :: true :: false :: true :: true :: true :: false :: false :: false :: false :: false :: false :: false :: false :: false :: false :: false :: false :: false :: false :: false :: false :: false :: false :: false :: false :: false :: false :: false :: false :: false :: false :: false :: false :: false :: false :: false :: false :: false :: false :: false :: false :: [])) rfl rfl (by as_aux_lemma => kernel_rfl) (fun _ _ _ h => h) (Or.inl ⟨by rfl, ?_⟩) ?_ ?_
                rotate_left
                · intro w'
                  go_simp
                  with_reducible rfl
                rotate_left
                · simp only [Act.put, List.setIfInBounds_toArray, List.set_cons_zero, List.set_cons_succ, i64_w, i32_w]
                  rfl
                refine pure_ (i := 29) (N := some 139) (v := ?_) (a' := ?_) (List.toArray (true :: true :: true :: true :: true :: true :: true :: true :: true :: true :: true :: true :: true :: true :: true :: true :: true :: true :: true :: true :: true :: true :: true :: true :: true :: false :: true :: true :: true :: true :: false :: false :: false :: false :: false :: false :: false :: false :: false :: false :: false :: false :: false :: false :: false :: false :: false :: false :: false :: false :: false :: false :: false :: false :: false :: false :: false :: false :: false :: false :: false :: false :: false :: false :: false :: [])) rfl rfl (by as_aux_lemma => kernel_rfl) (fun _ _ _ h => h) (Or.inl ⟨by rfl, ?_⟩) ?_ ?_
                rotate_left
                · intro w'
                  go_simp
                  with_reducible rfl
                rotate_left
                · simp only [Act.put, List.setIfInBounds_toArray, List.set_cons_zero, List.set_cons_succ, i64_w, i32_w]
                  rfl
                refine pure_ (i := 30) (N := some 140) (v := ?_) (a' := ?_) (List.toArray (true :: true :: true :: true :: true :: true :: true :: true :: true :: true :: true :: true :: true :: true :: true :: true :: true :: true :: true :: true :: true :: true :: true :: true :: true :: false :: true :: true :: true :: true :: true :: false :: false :: false :: false :: false :: false :: false :: false :: false :: false :: false :: false :: false :: false :: false :: false :: false :: false :: false :: false :: false :: false :: false :: false :: false :: false :: false :: false :: false :: false :: false :: false :: false :: false :: [])) rfl rfl (by as_aux_lemma => kernel_rfl) (fun _ _ _ h => h) (Or.inl ⟨by rfl, ?_⟩) ?_ ?_
                rotate_left
                · intro w'
                  go_simp
                  with_reducible rfl
                rotate_left
                · simp only [Act.put, List.setIfInBounds_toArray, List.set_cons_zero, List.set_cons_succ, i64_w, i32_w]
                  rfl
                refine take_ (i := 31) (N := some 141) (v := ?_) (a' := ?_) (List.toArray (true :: true :: true :: true :: true :: true :: true :: true :: true :: true :: true :: true :: true :: true :: true :: true :: true :: true :: true :: true :: true :: true :: true :: true :: true :: false :: true :: true :: true :: true :: true :: true :: false :: false :: false :: false :: false :: false :: false :: false :: false :: false :: false :: false :: false :: false :: false :: false :: false :: false :: false :: false :: false :: false :: false :: false :: false :: false :: false :: false :: false :: false :: false :: false :: false :: [])) rfl rfl (by as_aux_lemma => kernel_rfl) (fun _ _ _ h => h) (Or.inl ⟨by rfl, ?_⟩) hHeld ?_ ?_
                rotate_left
                · rintro w' ⟨s0, s1, s2, s3, s4, s5, s6, s7, s8⟩
                  go_simp
                  with_reducible rfl
                rotate_left
                · simp only [Act.put, List.setIfInBounds_toArray, List.set_cons_zero, List.set_cons_succ, i64_w, i32_w]
                  rfl
                refine pure_ (i := 32) (N := some 142) (v := ?_) (a' := ?_) (List.toArray (true :: true :: true :: true :: true :: true :: true :: true :: true :: true :: true :: true :: true :: true :: true :: true :: true :: true :: true :: true :: true :: true :: true :: true :: true :: false :: true :: true :: true :: true :: true :: true :: true :: false :: false :: false :: false :: false :: false :: false :: false :: false :: false :: false :: false :: false :: false :: false :: false :: false :: false :: false :: false :: false :: false :: false :: false :: false :: false :: false :: false :: false :: false :: false :: false :: [])) rfl rfl (by as_aux_lemma => kernel_rfl) (fun _ _ _ h => h) (Or.inl ⟨by rfl, ?_⟩) ?_ ?_
                rotate_left
                · intro w'
                  go_simp
                  with_reducible rfl
                rotate_left
                · simp only [Act.put, List.setIfInBounds_toArray, List.set_cons_zero, List.set_cons_succ, i64_w, i32_w]
                  rfl
                refine pure_ (i := 33) (N := some 143) (v := ?_) (a' := ?_) (List.toArray (true :: true :: true :: true :: true :: true :: true :: true :: true :: true :: true :: true :: true :: true :: true :: true :: true :: true :: true :: true :: true :: true :: true :: true :: true :: false :: true :: true :: true :: true :: true :: true :: true :: true :: false :: false :: false :: false :: false :: false :: false :: false :: false :: false :: false :: false :: false :: false :: false :: false :: false :: false :: false :: false :: false :: false :: false :: false :: false :: false :: false :: false :: false :: false :: false :: [])) rfl rfl (by as_aux_lemma => kernel_rfl) (fun _ _ _ h => h) (Or.inl ⟨by rfl, ?_⟩) ?_ ?_
                rotate_left
                · intro w'
                  go_simp
                  with_reducible rfl
                rotate_left
                · simp only [Act.put, List.setIfInBounds_toArray, List.set_cons_zero, List.set_cons_succ, i64_w, i32_w]
                  rfl
                refine pure_ (i := 34) (N := some 144) (v := ?_) (a' := ?_) (List.toArray (true :: true :: true :: true :: true :: true :: true :: true :: true :: true :: true :: true :: true :: true :: true :: true :: true :: true :: true :: true :: true :: true :: true :: true :: true :: false :: true :: true :: true :: true :: true :: true :: true :: true :: true :: false :: false :: false :: false :: false :: false :: false :: false :: false :: false :: false :: false :: false :: false :: false :: false :: false :: false :: false :: false :: false :: false :: false :: false :: false :: false :: false :: false :: false :: false :: [])) rfl rfl (by as_aux_lemma => kernel_rfl) (fun _ _ _ h => h) (Or.inl ⟨by rfl, ?_⟩) ?_ ?_
                rotate_left
                · intro w'
                  go_simp
                  with_reducible rfl
                rotate_left
                · simp only [Act.put, List.setIfInBounds_toArray, List.set_cons_zero, List.set_cons_succ, i64_w, i32_w]
                  rfl
                refine one_ (i := 25) (N := some 135) (List.toArray (true :: true :: true :: true :: true :: true :: true :: true :: true :: true :: true :: true :: true :: true :: true :: true :: true :: true :: true :: true :: true :: true :: true :: true :: true :: true :: true :: true :: true :: true :: true :: true :: true :: true :: true :: false :: false :: false :: false :: false :: false :: false :: false :: false :: false :: false :: false :: false :: false :: false :: false :: false :: false :: false :: false :: false :: false :: false :: false :: false :: false :: false :: false :: false :: false :: [])) rfl rfl (by as_aux_lemma => kernel_rfl) (by decide) (fun K hK => ?_)
                refine goes_ Try.func11 (by as_aux_lemma => kernel_rfl) rfl #[.pointer (some ⟨b, 0, none⟩), .int .u64 (IntKind.u64.wrap (now + wait))] (by rfl) rfl rfl (by (try simp only [List.map_toArray, List.map_cons, List.map_nil]); first | done | rfl) ?_
                with_reducible refine (HDB.out _ _ HBB.out).mono ?_
                rintro e W1 ⟨rfl, h5⟩
                refine ⟨_, rfl, ?_⟩
                have HBB := Lib.hid (HBB.out.step h5)
                clear h5
                have z0 := (HBB.out.bel.cell (cell_lt E0.out)).trans E0.out; have z1 := (HBB.out.bel.cell (cell_lt E1.out)).trans E1.out; have z2 := (HBB.out.bel.cell (cell_lt E2.out)).trans E2.out; have z3 := (HBB.out.bel.cell (cell_lt E3.out)).trans E3.out; have z4 := (HBB.out.bel.cell (cell_lt E4.out)).trans E4.out; have z5 := (HBB.out.bel.cell (cell_lt E5.out)).trans E5.out; have z6 := (HBB.out.bel.cell (cell_lt E6.out)).trans E6.out; have z7 := (HBB.out.bel.cell (cell_lt E7.out)).trans E7.out; have z8 := (HBB.out.bel.cell (cell_lt E8.out)).trans E8.out
                have kq := blk_cell HBB.out.hq 3
                refine hK.out _ _ ⟨z1, z2, z3, z4, z5, z6, z7, z8, kq⟩ (fun hHeld => ?_)
                clear hK K kq z0 z1 z2 z3 z4 z5 z6 z7 z8
                refine norm_ (a' := ?_) ?_ ?_
                rotate_left
                · show Act.put _ (some 135) _ = _
                  simp only [Act.put, List.setIfInBounds_toArray, List.set_cons_zero, List.set_cons_succ, i64_w, i32_w]
                  rfl
                as_aux_lemma =>
                  refine one_ (i := 35) (N := some 145) (List.toArray (true :: true :: true :: true :: true :: true :: true :: true :: true :: true :: true :: true :: true :: true :: true :: true :: true :: true :: true :: true :: true :: true :: true :: true :: true :: true :: true :: true :: true :: true :: true :: true :: true :: true :: true :: true :: false :: false :: false :: false :: false :: false :: false :: false :: false :: false :: false :: false :: false :: false :: false :: false :: false :: false :: false :: false :: false :: false :: false :: false :: false :: false :: false :: false :: false :: [])) rfl rfl (by as_aux_lemma => kernel_rfl) (by decide) (fun K hK => ?_)
                  refine goes_ Try.func12 (by as_aux_lemma => kernel_rfl) rfl #[.pointer (some ⟨q, 0, none⟩), .int .u64 (IntKind.u64.wrap (now + wait))] (by rfl) rfl rfl (by (try simp only [List.map_toArray, List.map_cons, List.map_nil]); first | done | rfl) ?_
                  with_reducible refine (HDQ.out _ _ HNW.out.1 HNW.out.2 HBB.out).mono ?_
                  rintro e W1 ⟨rfl, h5⟩
                  refine ⟨_, rfl, ?_⟩
                  have HBB := Lib.hid (HBB.out.step h5)
                  clear h5
                  have z0 := (HBB.out.bel.cell (cell_lt E0.out)).trans E0.out; have z1 := (HBB.out.bel.cell (cell_lt E1.out)).trans E1.out; have z2 := (HBB.out.bel.cell (cell_lt E2.out)).trans E2.out; have z3 := (HBB.out.bel.cell (cell_lt E3.out)).trans E3.out; have z4 := (HBB.out.bel.cell (cell_lt E4.out)).trans E4.out; have z5 := (HBB.out.bel.cell (cell_lt E5.out)).trans E5.out; have z6 := (HBB.out.bel.cell (cell_lt E6.out)).trans E6.out; have z7 := (HBB.out.bel.cell (cell_lt E7.out)).trans E7.out; have z8 := (HBB.out.bel.cell (cell_lt E8.out)).trans E8.out
                  have kq := blk_cell HBB.out.hq 3
                  refine hK.out _ _ ⟨z1, z2, z3, z4, z5, z6, z7, z8, kq⟩ (fun hHeld => ?_)
                  clear hK K kq z0 z1 z2 z3 z4 z5 z6 z7 z8
                  refine norm_ (a' := ?_) ?_ ?_
                  rotate_left
                  · show Act.put _ (some 145) _ = _
                    simp only [Act.put, List.setIfInBounds_toArray, List.set_cons_zero, List.set_cons_succ, i64_w, i32_w]
                    rfl
                  as_aux_lemma =>
                    refine pure_ (i := 36) (N := some 146) (v := ?_) (a' := ?_) (List.toArray (true :: true :: true :: true :: true :: true :: true :: true :: true :: true :: true :: true :: true :: true :: true :: true :: true :: true :: true :: true :: true :: true :: true :: true :: true :: true :: true :: true :: true :: true :: true :: true :: true :: true :: true :: true :: true :: false :: false :: false :: false :: false :: false :: false :: false :: false :: false :: false :: false :: false :: false :: false :: false :: false :: false :: false :: false :: false :: false :: false :: false :: false :: false :: false :: false :: [])) rfl rfl (by as_aux_lemma => kernel_rfl) (fun _ _ _ h => h) (Or.inl ⟨by rfl, ?_⟩) ?_ ?_
                    rotate_left
                    · intro w'
                      go_simp
                      with_reducible rfl
                    rotate_left
                    · simp only [Act.put, List.setIfInBounds_toArray, List.set_cons_zero, List.set_cons_succ, i64_w, i32_w]
                      rfl
                    refine pure_ (i := 37) (N := some 147) (v := ?_) (a' := ?_) (List.toArray (true :: true :: true :: true :: true :: true :: true :: true :: true :: true :: true :: true :: true :: true :: true :: true :: true :: true :: true :: true :: true :: true :: true :: true :: true :: true :: true :: true :: true :: true :: true :: true :: true :: true :: true :: true :: true :: true :: false :: false :: false :: false :: false :: false :: false :: false :: false :: false :: false :: false :: false :: false :: false :: false :: false :: false :: false :: false :: false :: false :: false :: false :: false :: false :: false :: [])) rfl rfl (by as_aux_lemma => kernel_rfl) (fun _ _ _ h => h) (Or.inl ⟨by rfl, ?_⟩) ?_ ?_
                    rotate_left
                    · intro w'
                      go_simp
                      with_reducible rfl
                    rotate_left
                    · simp only [Act.put, List.setIfInBounds_toArray, List.set_cons_zero, List.set_cons_succ, i64_w, i32_w]
                      rfl
                    refine pure_ (i := 38) (N := some 148) (v := ?_) (a' := ?_) (List.toArray (true :: true :: true :: true :: true :: true :: true :: true :: true :: true :: true :: true :: true :: true :: true :: true :: true :: true :: true :: true :: true :: true :: true :: true :: true :: true :: true :: true :: true :: true :: true :: true :: true :: true :: true :: true :: true :: true :: true :: false :: false :: false :: false :: false :: false :: false :: false :: false :: false :: false :: false :: false :: false :: false :: false :: false :: false :: false :: false :: false :: false :: false :: false :: false :: false :: [])) rfl rfl (by as_aux_lemma => kernel_rfl) (fun _ _ _ h => h) (Or.inl ⟨by rfl, ?_⟩) ?_ ?_
                    rotate_left
                    · intro w'
                      go_simp
                      with_reducible rfl
                    rotate_left
                    · simp only [Act.put, List.setIfInBounds_toArray, List.set_cons_zero, List.set_cons_succ, i64_w, i32_w]
                      rfl
                    refine pure_ (i := 39) (N := some 149) (v := ?_) (a' := ?_) (List.toArray (true :: true :: true :: true :: true :: true :: true :: true :: true :: true :: true :: true :: true :: true :: true :: true :: true :: true :: true :: true :: true :: true :: true :: true :: true :: true :: true :: true :: true :: true :: true :: true :: true :: true :: true :: true :: true :: true :: true :: true :: false :: false :: false :: false :: false :: false :: false :: false :: false :: false :: false :: false :: false :: false :: false :: false :: false :: false :: false :: false :: false :: false :: false :: false :: false :: [])) rfl rfl (by as_aux_lemma => kernel_rfl) (fun _ _ _ h => h) (Or.inl ⟨by rfl, ?_⟩) ?_ ?_
                    rotate_left
                    · intro w'
                      go_simp
                      with_reducible rfl
                    rotate_left
                    · simp only [Act.put, List.setIfInBounds_toArray, List.set_cons_zero, List.set_cons_succ, i64_w, i32_w]
                      rfl
                    refine pure_ (i := 41) (N := some 151) (v := ?_) (a' := ?_) (List.toArray (true :: true :: true :: true :: true :: true :: true :: true :: true :: true :: true :: true :: true :: true :: true :: true :: true :: true :: true :: true :: true :: true :: true :: true :: true :: true :: true :: true :: true :: true :: true :: true :: true :: true :: true :: true :: true :: true :: true :: true :: false :: true :: false :: false :: false :: false :: false :: false :: false :: false :: false :: false :: false :: false :: false :: false :: false :: false :: false :: false :: false :: false :: false :: false :: false :: [])) rfl rfl (by as_aux_lemma => kernel_rfl) (fun _ _ _ h => h) (Or.inl ⟨by rfl, ?_⟩) ?_ ?_
                    rotate_left
                    · intro w'
                      go_simp
                      with_reducible rfl
                    rotate_left
                    · simp only [Act.put, List.setIfInBounds_toArray, List.set_cons_zero, List.set_cons_succ, i64_w, i32_w]
                      rfl
                    refine pure_ (i := 42) (N := some 152) (v := ?_) (a' := ?_) (List.toArray (true :: true :: true :: true :: true :: true :: true :: true :: true :: true :: true :: true :: true :: true :: true :: true :: true :: true :: true :: true :: true :: true :: true :: true :: true :: true :: true :: true :: true :: true :: true :: true :: true :: true :: true :: true :: true :: true :: true :: true :: false :: true :: true :: false :: false :: false :: false :: false :: false :: false :: false :: false :: false :: false :: false :: false :: false :: false :: false :: false :: false :: false :: false :: false :: false :: [])) rfl rfl (by as_aux_lemma => kernel_rfl) (fun _ _ _ h => h) (Or.inl ⟨by rfl, ?_⟩) ?_ ?_
                    rotate_left
                    · intro w'
                      go_simp
                      with_reducible rfl
                    rotate_left
                    · simp only [Act.put, List.setIfInBounds_toArray, List.set_cons_zero, List.set_cons_succ, i64_w, i32_w]
                      rfl
                    refine pure_ (i := 43) (N := some 153) (v := ?_) (a' := ?_) (List.toArray (true :: true :: true :: true :: true :: true :: true :: true :: true :: true :: true :: true :: true :: true :: true :: true :: true :: true :: true :: true :: true :: true :: true :: true :: true :: true :: true :: true :: true :: true :: true :: true :: true :: true :: true :: true :: true :: true :: true :: true :: false :: true :: true :: true :: false :: false :: false :: false :: false :: false :: false :: false :: false :: false :: false :: false :: false :: false :: false :: false :: false :: false :: false :: false :: false :: [])) rfl rfl (by as_aux_lemma => kernel_rfl) (fun _ _ _ h => h) (Or.inl ⟨by rfl, ?_⟩) ?_ ?_
                    rotate_left
                    · intro w'
                      go_simp
                      with_reducible rfl
                    rotate_left
                    · simp only [Act.put, List.setIfInBounds_toArray, List.set_cons_zero, List.set_cons_succ, i64_w, i32_w]
                      rfl
                    refine take_ (i := 44) (N := some 154) (v := ?_) (a' := ?_) (List.toArray (true :: true :: true :: true :: true :: true :: true :: true :: true :: true :: true :: true :: true :: true :: true :: true :: true :: true :: true :: true :: true :: true :: true :: true :: true :: true :: true :: true :: true :: true :: true :: true :: true :: true :: true :: true :: true :: true :: true :: true :: false :: true :: true :: true :: true :: false :: false :: false :: false :: false :: false :: false :: false :: false :: false :: false :: false :: false :: false :: false :: false :: false :: false :: false :: false :: [])) rfl rfl (by as_aux_lemma => kernel_rfl) (fun _ _ _ h => h) (Or.inl ⟨by rfl, ?_⟩) hHeld ?_ ?_
                    rotate_left
                    · rintro w' ⟨s0, s1, s2, s3, s4, s5, s6, s7, s8⟩
                      go_simp
                      with_reducible rfl
                    rotate_left
                    · simp only [Act.put, List.setIfInBounds_toArray, List.set_cons_zero, List.set_cons_succ, i64_w, i32_w]
                      rfl
                    refine pure_ (i := 45) (N := some 155) (v := ?_) (a' := ?_) (List.toArray (true :: true :: true :: true :: true :: true :: true :: true :: true :: true :: true :: true :: true :: true :: true :: true :: true :: true :: true :: true :: true :: true :: true :: true :: true :: true :: true :: true :: true :: true :: true :: true :: true :: true :: true :: true :: true :: true :: true :: true :: false :: true :: true :: true :: true :: true :: false :: false :: false :: false :: false :: false :: false :: false :: false :: false :: false :: false :: false :: false :: false :: false :: false :: false :: false :: [])) rfl rfl (by as_aux_lemma => kernel_rfl) (fun _ _ _ h => h) (Or.inl ⟨by rfl, ?_⟩) ?_ ?_
                    rotate_left
                    · intro w'
                      go_simp
                      with_reducible rfl
                    rotate_left
                    · simp only [Act.put, List.setIfInBounds_toArray, List.set_cons_zero, List.set_cons_succ, i64_w, i32_w]
                      rfl
                    refine one_ (i := 40) (N := some 150) (List.toArray (true :: true :: true :: true :: true :: true :: true :: true :: true :: true :: true :: true :: true :: true :: true :: true :: true :: true :: true :: true :: true :: true :: true :: true :: true :: true :: true :: true :: true :: true :: true :: true :: true :: true :: true :: true :: true :: true :: true :: true :: true :: true :: true :: true :: true :: true :: false :: false :: false :: false :: false :: false :: false :: false :: false :: false :: false :: false :: false :: false :: false :: false :: false :: false :: false :: [])) rfl rfl (by as_aux_lemma => kernel_rfl) (by decide) (fun K hK => ?_)
                    refine goes_ Try.func13 (by as_aux_lemma => kernel_rfl) rfl #[.pointer (some ⟨b, 0, none⟩)] (by rfl) rfl rfl (by (try simp only [List.map_toArray, List.map_cons, List.map_nil]); first | done | rfl) ?_
                    with_reducible refine (HBS.out _ HBB.out).mono ?_
                    rintro e W1 ⟨rfl, rfl⟩
                    refine ⟨_, rfl, ?_⟩
                    have z0 := (HBB.out.bel.cell (cell_lt E0.out)).trans E0.out; have z1 := (HBB.out.bel.cell (cell_lt E1.out)).trans E1.out; have z2 := (HBB.out.bel.cell (cell_lt E2.out)).trans E2.out; have z3 := (HBB.out.bel.cell (cell_lt E3.out)).trans E3.out; have z4 := (HBB.out.bel.cell (cell_lt E4.out)).trans E4.out; have z5 := (HBB.out.bel.cell (cell_lt E5.out)).trans E5.out; have z6 := (HBB.out.bel.cell (cell_lt E6.out)).trans E6.out; have z7 := (HBB.out.bel.cell (cell_lt E7.out)).trans E7.out; have z8 := (HBB.out.bel.cell (cell_lt E8.out)).trans E8.out
                    have kq := blk_cell HBB.out.hq 3
                    refine hK.out _ _ ⟨z1, z2, z3, z4, z5, z6, z7, z8, kq⟩ (fun hHeld => ?_)
                    clear hK K kq z0 z1 z2 z3 z4 z5 z6 z7 z8
                    refine norm_ (a' := ?_) ?_ ?_
                    rotate_left
                    · show Act.put _ (some 150) _ = _
                      simp only [Act.put, List.setIfInBounds_toArray, List.set_cons_zero, List.set_cons_succ, i64_w, i32_w]
                      rfl
                    as_aux_lemma =>
                      refine pure_ (i := 46) (N := some 156) (v := ?_) (a' := ?_) (List.toArray (true :: true :: true :: true :: true :: true :: true :: true :: true :: true :: true :: true :: true :: true :: true :: true :: true :: true :: true :: true :: true :: true :: true :: true :: true :: true :: true :: true :: true :: true :: true :: true :: true :: true :: true :: true :: true :: true :: true :: true :: true :: true :: true :: true :: true :: true :: true :: false :: false :: false :: false :: false :: false :: false :: false :: false :: false :: false :: false :: false :: false :: false :: false :: false :: false :: [])) rfl rfl (by as_aux_lemma => kernel_rfl) (fun _ _ _ h => h) (Or.inl ⟨by rfl, ?_⟩) ?_ ?_
                      rotate_left
                      · intro w'
                        go_simp
                        with_reducible rfl
                      rotate_left
                      · simp only [Act.put, List.setIfInBounds_toArray, List.set_cons_zero, List.set_cons_succ, i64_w, i32_w]
                        rfl
                      refine pure_ (i := 47) (N := some 157) (v := ?_) (a' := ?_) (List.toArray (true :: true :: true :: true :: true :: true :: true :: true :: true :: true :: true :: true :: true :: true :: true :: true :: true :: true :: true :: true :: true :: true :: true :: true :: true :: true :: true :: true :: true :: true :: true :: true :: true :: true :: true :: true :: true :: true :: true :: true :: true :: true :: true :: true :: true :: true :: true :: true :: false :: false :: false :: false :: false :: false :: false :: false :: false :: false :: false :: false :: false :: false :: false :: false :: false :: [])) rfl rfl (by as_aux_lemma => kernel_rfl) (fun _ _ _ h => h) (Or.inl ⟨by rfl, ?_⟩) ?_ ?_
                      rotate_left
                      · intro w'
                        go_simp
                        with_reducible rfl
                      rotate_left
                      · simp only [Act.put, List.setIfInBounds_toArray, List.set_cons_zero, List.set_cons_succ, i64_w, i32_w]
                        rfl
                      refine pure_ (i := 48) (N := some 158) (v := ?_) (a' := ?_) (List.toArray (true :: true :: true :: true :: true :: true :: true :: true :: true :: true :: true :: true :: true :: true :: true :: true :: true :: true :: true :: true :: true :: true :: true :: true :: true :: true :: true :: true :: true :: true :: true :: true :: true :: true :: true :: true :: true :: true :: true :: true :: true :: true :: true :: true :: true :: true :: true :: true :: true :: false :: false :: false :: false :: false :: false :: false :: false :: false :: false :: false :: false :: false :: false :: false :: false :: [])) rfl rfl (by as_aux_lemma => kernel_rfl) (fun _ _ _ h => h) (Or.inl ⟨by rfl, ?_⟩) ?_ ?_
                      rotate_left
                      · intro w'
                        go_simp
                        with_reducible rfl
                      rotate_left
                      · simp only [Act.put, List.setIfInBounds_toArray, List.set_cons_zero, List.set_cons_succ, i64_w, i32_w]
                        rfl
                      refine pure_ (i := 49) (N := some 159) (v := ?_) (a' := ?_) (List.toArray (true :: true :: true :: true :: true :: true :: true :: true :: true :: true :: true :: true :: true :: true :: true :: true :: true :: true :: true :: true :: true :: true :: true :: true :: true :: true :: true :: true :: true :: true :: true :: true :: true :: true :: true :: true :: true :: true :: true :: true :: true :: true :: true :: true :: true :: true :: true :: true :: true :: true :: false :: false :: false :: false :: false :: false :: false :: false :: false :: false :: false :: false :: false :: false :: false :: [])) rfl rfl (by as_aux_lemma => kernel_rfl) (fun _ _ _ h => h) (Or.inl ⟨by rfl, ?_⟩) ?_ ?_
                      rotate_left
                      · intro w'
                        go_simp
                        with_reducible rfl
                      rotate_left
                      · simp only [Act.put, List.setIfInBounds_toArray, List.set_cons_zero, List.set_cons_succ, i64_w, i32_w]
                        rfl
                      refine pure_ (i := 50) (N := some 160) (v := ?_) (a' := ?_) (List.toArray (true :: true :: true :: true :: true :: true :: true :: true :: true :: true :: true :: true :: true :: true :: true :: true :: true :: true :: true :: true :: true :: true :: true :: true :: true :: true :: true :: true :: true :: true :: true :: true :: true :: true :: true :: true :: true :: true :: true :: true :: true :: true :: true :: true :: true :: true :: true :: true :: true :: true :: true :: false :: false :: false :: false :: false :: false :: false :: false :: false :: false :: false :: false :: false :: false :: [])) rfl rfl (by as_aux_lemma => kernel_rfl) (fun _ _ _ h => h) (Or.inl ⟨by rfl, ?_⟩) ?_ ?_
                      rotate_left
                      · intro w'
                        go_simp
                        with_reducible rfl
                      rotate_left
                      · simp only [Act.put, List.setIfInBounds_toArray, List.set_cons_zero, List.set_cons_succ, i64_w, i32_w]
                        rfl
                      refine pure_ (i := 51) (N := some 161) (v := ?_) (a' := ?_) (List.toArray (true :: true :: true :: true :: true :: true :: true :: true :: true :: true :: true :: true :: true :: true :: true :: true :: true :: true :: true :: true :: true :: true :: true :: true :: true :: true :: true :: true :: true :: true :: true :: true :: true :: true :: true :: true :: true :: true :: true :: true :: true :: true :: true :: true :: true :: true :: true :: true :: true :: true :: true :: true :: false :: false :: false :: false :: false :: false :: false :: false :: false :: false :: false :: false :: false :: [])) rfl rfl (by as_aux_lemma => kernel_rfl) (fun _ _ _ h => h) (Or.inl ⟨by rfl, ?_⟩) ?_ ?_
                      rotate_left
                      · intro w'
                        go_simp
                        with_reducible rfl
                      rotate_left
                      · simp only [Act.put, List.setIfInBounds_toArray, List.set_cons_zero, List.set_cons_succ, i64_w, i32_w]
                        rfl
                      refine pure_ (i := 52) (N := some 162) (v := ?_) (a' := ?_) (List.toArray (true :: true :: true :: true :: true :: true :: true :: true :: true :: true :: true :: true :: true :: true :: true :: true :: true :: true :: true :: true :: true :: true :: true :: true :: true :: true :: true :: true :: true :: true :: true :: true :: true :: true :: true :: true :: true :: true :: true :: true :: true :: true :: true :: true :: true :: true :: true :: true :: true :: true :: true :: true :: true :: false :: false :: false :: false :: false :: false :: false :: false :: false :: false :: false :: false :: [])) rfl rfl (by as_aux_lemma => kernel_rfl) (fun _ _ _ h => h) (Or.inl ⟨by rfl, ?_⟩) ?_ ?_
                      rotate_left
                      · intro w'
                        go_simp
                        with_reducible rfl
                      rotate_left
                      · simp only [Act.put, List.setIfInBounds_toArray, List.set_cons_zero, List.set_cons_succ, i64_w, i32_w]
                        rfl
                      refine pure_ (i := 53) (N := some 163) (v := ?_) (a' := ?_) (List.toArray (true :: true :: true :: true :: true :: true :: true :: true :: true :: true :: true :: true :: true :: true :: true :: true :: true :: true :: true :: true :: true :: true :: true :: true :: true :: true :: true :: true :: true :: true :: true :: true :: true :: true :: true :: true :: true :: true :: true :: true :: true :: true :: true :: true :: true :: true :: true :: true :: true :: true :: true :: true :: true :: true :: false :: false :: false :: false :: false :: false :: false :: false :: false :: false :: false :: [])) rfl rfl (by as_aux_lemma => kernel_rfl) (fun _ _ _ h => h) (Or.inl ⟨by rfl, ?_⟩) ?_ ?_
                      rotate_left
                      · intro w'
                        go_simp
                        with_reducible rfl
                      rotate_left
                      · simp only [Act.put, List.setIfInBounds_toArray, List.set_cons_zero, List.set_cons_succ, i64_w, i32_w]
                        rfl
                      refine take_ (i := 54) (N := some 164) (v := ?_) (a' := ?_) (List.toArray (true :: true :: true :: true :: true :: true :: true :: true :: true :: true :: true :: true :: true :: true :: true :: true :: true :: true :: true :: true :: true :: true :: true :: true :: true :: true :: true :: true :: true :: true :: true :: true :: true :: true :: true :: true :: true :: true :: true :: true :: true :: true :: true :: true :: true :: true :: true :: true :: true :: true :: true :: true :: true :: true :: true :: false :: false :: false :: false :: false :: false :: false :: false :: false :: false :: [])) rfl rfl (by as_aux_lemma => kernel_rfl) (fun _ _ _ h => h) (Or.inl ⟨by rfl, ?_⟩) hHeld ?_ ?_
                      rotate_left
                      · rintro w' ⟨s0, s1, s2, s3, s4, s5, s6, s7, s8⟩
                        go_simp
                        with_reducible rfl
                      rotate_left
                      · simp only [Act.put, List.setIfInBounds_toArray, List.set_cons_zero, List.set_cons_succ, i64_w, i32_w]
                        rfl
                      refine pure_ (i := 56) (N := some 166) (v := ?_) (a' := ?_) (List.toArray (true :: true :: true :: true :: true :: true :: true :: true :: true :: true :: true :: true :: true :: true :: true :: true :: true :: true :: true :: true :: true :: true :: true :: true :: true :: true :: true :: true :: true :: true :: true :: true :: true :: true :: true :: true :: true :: true :: true :: true :: true :: true :: true :: true :: true :: true :: true :: true :: true :: true :: true :: true :: true :: true :: true :: false :: true :: false :: false :: false :: false :: false :: false :: false :: false :: [])) rfl rfl (by as_aux_lemma => kernel_rfl) (fun _ _ _ h => h) (Or.inl ⟨by rfl, ?_⟩) ?_ ?_
                      rotate_left
                      · intro w'
                        go_simp
                        with_reducible rfl
                      rotate_left
                      · simp only [Act.put, List.setIfInBounds_toArray, List.set_cons_zero, List.set_cons_succ, i64_w, i32_w]
                        rfl
                      refine pure_ (i := 57) (N := some 167) (v := ?_) (a' := ?_) (List.toArray (true :: true :: true :: true :: true :: true :: true :: true :: true :: true :: true :: true :: true :: true :: true :: true :: true :: true :: true :: true :: true :: true :: true :: true :: true :: true :: true :: true :: true :: true :: true :: true :: true :: true :: true :: true :: true :: true :: true :: true :: true :: true :: true :: true :: true :: true :: true :: true :: true :: true :: true :: true :: true :: true :: true :: false :: true :: true :: false :: false :: false :: false :: false :: false :: false :: [])) rfl rfl (by as_aux_lemma => kernel_rfl) (fun _ _ _ h => h) (Or.inl ⟨by rfl, ?_⟩) ?_ ?_
                      rotate_left
                      · intro w'
                        go_simp
                        with_reducible rfl
                      rotate_left
                      · simp only [Act.put, List.setIfInBounds_toArray, List.set_cons_zero, List.set_cons_succ, i64_w, i32_w]
                        rfl
                      refine pure_ (i := 58) (N := some 168) (v := ?_) (a' := ?_) (List.toArray (true :: true :: true :: true :: true :: true :: true :: true :: true :: true :: true :: true :: true :: true :: true :: true :: true :: true :: true :: true :: true :: true :: true :: true :: true :: true :: true :: true :: true :: true :: true :: true :: true :: true :: true :: true :: true :: true :: true :: true :: true :: true :: true :: true :: true :: true :: true :: true :: true :: true :: true :: true :: true :: true :: true :: false :: true :: true :: true :: false :: false :: false :: false :: false :: false :: [])) rfl rfl (by as_aux_lemma => kernel_rfl) (fun _ _ _ h => h) (Or.inl ⟨by rfl, ?_⟩) ?_ ?_
                      rotate_left
                      · intro w'
                        go_simp
                        with_reducible rfl
                      rotate_left
                      · simp only [Act.put, List.setIfInBounds_toArray, List.set_cons_zero, List.set_cons_succ, i64_w, i32_w]
                        rfl
                      refine pure_ (i := 59) (N := some 169) (v := ?_) (a' := ?_) (List.toArray (true :: true :: true :: true :: true :: true :: true :: true :: true :: true :: true :: true :: true :: true :: true :: true :: true :: true :: true :: true :: true :: true :: true :: true :: true :: true :: true :: true :: true :: true :: true :: true :: true :: true :: true :: true :: true :: true :: true :: true :: true :: true :: true :: true :: true :: true :: true :: true :: true :: true :: true :: true :: true :: true :: true :: false :: true :: true :: true :: true :: false :: false :: false :: false :: false :: [])) rfl rfl (by as_aux_lemma => kernel_rfl) (fun _ _ _ h => h) (Or.inl ⟨by rfl, ?_⟩) ?_ ?_
                      rotate_left
                      · intro w'
                        go_simp
                        with_reducible rfl
                      rotate_left
                      · simp only [Act.put, List.setIfInBounds_toArray, List.set_cons_zero, List.set_cons_succ, i64_w, i32_w]
                        rfl
                      refine pure_ (i := 60) (N := some 170) (v := ?_) (a' := ?_) (List.toArray (true :: true :: true :: true :: true :: true :: true :: true :: true :: true :: true :: true :: true :: true :: true :: true :: true :: true :: true :: true :: true :: true :: true :: true :: true :: true :: true :: true :: true :: true :: true :: true :: true :: true :: true :: true :: true :: true :: true :: true :: true :: true :: true :: true :: true :: true :: true :: true :: true :: true :: true :: true :: true :: true :: true :: false :: true :: true :: true :: true :: true :: false :: false :: false :: false :: [])) rfl rfl (by as_aux_lemma => kernel_rfl) (fun _ _ _ h => h) (Or.inl ⟨by rfl, ?_⟩) ?_ ?_
                      rotate_left
                      · intro w'
                        go_simp
                        with_reducible rfl
                      rotate_left
                      · simp only [Act.put, List.setIfInBounds_toArray, List.set_cons_zero, List.set_cons_succ, i64_w, i32_w]
                        rfl
                      refine take_ (i := 61) (N := some 171) (v := ?_) (a' := ?_) (List.toArray (true :: true :: true :: true :: true :: true :: true :: true :: true :: true :: true :: true :: true :: true :: true :: true :: true :: true :: true :: true :: true :: true :: true :: true :: true :: true :: true :: true :: true :: true :: true :: true :: true :: true :: true :: true :: true :: true :: true :: true :: true :: true :: true :: true :: true :: true :: true :: true :: true :: true :: true :: true :: true :: true :: true :: false :: true :: true :: true :: true :: true :: true :: false :: false :: false :: [])) rfl rfl (by as_aux_lemma => kernel_rfl) (fun _ _ _ h => h) (Or.inl ⟨by rfl, ?_⟩) hHeld ?_ ?_
                      rotate_left
                      · rintro w' ⟨s0, s1, s2, s3, s4, s5, s6, s7, s8⟩
                        go_simp
                        with_reducible rfl
                      rotate_left
                      · simp only [Act.put, List.setIfInBounds_toArray, List.set_cons_zero, List.set_cons_succ, i64_w, i32_w]
                        rfl
                      refine one_ (i := 55) (N := some 165) (List.toArray (true :: true :: true :: true :: true :: true :: true :: true :: true :: true :: true :: true :: true :: true :: true :: true :: true :: true :: true :: true :: true :: true :: true :: true :: true :: true :: true :: true :: true :: true :: true :: true :: true :: true :: true :: true :: true :: true :: true :: true :: true :: true :: true :: true :: true :: true :: true :: true :: true :: true :: true :: true :: true :: true :: true :: true :: true :: true :: true :: true :: true :: true :: false :: false :: false :: [])) rfl rfl (by as_aux_lemma => kernel_rfl) (by decide) (fun K hK => ?_)
                      refine goes_ Try.func14 (by as_aux_lemma => kernel_rfl) rfl #[.pointer (some ⟨b, 0, none⟩), .agg #[.int .i64 m.f0, .int .i64 m.f1.f0, .int .i64 m.f1.f1, .int .u64 m.f1.f2, .int .u64 m.f1.f3, .string m.f1.f4, .string m.f2]] (by rfl) rfl rfl (by (try simp only [List.map_toArray, List.map_cons, List.map_nil]); first | done | rfl) ?_
                      with_reducible refine (HHB.out _ HBB.out).mono ?_
                      rintro e W1 ⟨rfl, h5⟩
                      refine ⟨_, rfl, ?_⟩
                      have HBB := Lib.hid (HBB.out.step h5)
                      clear h5
                      have z0 := (HBB.out.bel.cell (cell_lt E0.out)).trans E0.out; have z1 := (HBB.out.bel.cell (cell_lt E1.out)).trans E1.out; have z2 := (HBB.out.bel.cell (cell_lt E2.out)).trans E2.out; have z3 := (HBB.out.bel.cell (cell_lt E3.out)).trans E3.out; have z4 := (HBB.out.bel.cell (cell_lt E4.out)).trans E4.out; have z5 := (HBB.out.bel.cell (cell_lt E5.out)).trans E5.out; have z6 := (HBB.out.bel.cell (cell_lt E6.out)).trans E6.out; have z7 := (HBB.out.bel.cell (cell_lt E7.out)).trans E7.out; have z8 := (HBB.out.bel.cell (cell_lt E8.out)).trans E8.out
                      have kq := blk_cell HBB.out.hq 3
                      refine hK.out _ _ ⟨z1, z2, z3, z4, z5, z6, z7, z8, kq⟩ (fun hHeld => ?_)
                      clear hK K kq z0 z1 z2 z3 z4 z5 z6 z7 z8
                      refine norm_ (a' := ?_) ?_ ?_
                      rotate_left
                      · show Act.put _ (some 165) _ = _
                        simp only [Act.put, List.setIfInBounds_toArray, List.set_cons_zero, List.set_cons_succ, i64_w, i32_w]
                        rfl
                      as_aux_lemma =>
                        refine one_ (i := 62) (N := some 172) (List.toArray (true :: true :: true :: true :: true :: true :: true :: true :: true :: true :: true :: true :: true :: true :: true :: true :: true :: true :: true :: true :: true :: true :: true :: true :: true :: true :: true :: true :: true :: true :: true :: true :: true :: true :: true :: true :: true :: true :: true :: true :: true :: true :: true :: true :: true :: true :: true :: true :: true :: true :: true :: true :: true :: true :: true :: true :: true :: true :: true :: true :: true :: true :: true :: false :: false :: [])) rfl rfl (by as_aux_lemma => kernel_rfl) (by decide) (fun K hK => ?_)
                        refine goes_ Try.func15 (by as_aux_lemma => kernel_rfl) rfl #[.pointer (some ⟨q, 0, none⟩), .agg #[.int .i64 m.f0, .int .i64 m.f1.f0, .int .i64 m.f1.f1, .int .u64 m.f1.f2, .int .u64 m.f1.f3, .string m.f1.f4, .string m.f2]] (by rfl) rfl rfl (by (try simp only [List.map_toArray, List.map_cons, List.map_nil]); first | done | rfl) ?_
                        with_reducible refine (HHQ.out _ HBB.out).mono ?_
                        rintro e W1 ⟨rfl, h5⟩
                        refine ⟨_, rfl, ?_⟩
                        have HBB := Lib.hid (HBB.out.step h5)
                        clear h5
                        have z0 := (HBB.out.bel.cell (cell_lt E0.out)).trans E0.out; have z1 := (HBB.out.bel.cell (cell_lt E1.out)).trans E1.out; have z2 := (HBB.out.bel.cell (cell_lt E2.out)).trans E2.out; have z3 := (HBB.out.bel.cell (cell_lt E3.out)).trans E3.out; have z4 := (HBB.out.bel.cell (cell_lt E4.out)).trans E4.out; have z5 := (HBB.out.bel.cell (cell_lt E5.out)).trans E5.out; have z6 := (HBB.out.bel.cell (cell_lt E6.out)).trans E6.out; have z7 := (HBB.out.bel.cell (cell_lt E7.out)).trans E7.out; have z8 := (HBB.out.bel.cell (cell_lt E8.out)).trans E8.out
                        have kq := blk_cell HBB.out.hq 3
                        refine hK.out _ _ ⟨z1, z2, z3, z4, z5, z6, z7, z8, kq⟩ (fun hHeld => ?_)
                        clear hK K kq z0 z1 z2 z3 z4 z5 z6 z7 z8
                        refine norm_ (a' := ?_) ?_ ?_
                        rotate_left
                        · show Act.put _ (some 172) _ = _
                          simp only [Act.put, List.setIfInBounds_toArray, List.set_cons_zero, List.set_cons_succ, i64_w, i32_w]
                          rfl
                        as_aux_lemma =>
                          refine pure_ (i := 63) (N := some 173) (v := ?_) (a' := ?_) (List.toArray (true :: true :: true :: true :: true :: true :: true :: true :: true :: true :: true :: true :: true :: true :: true :: true :: true :: true :: true :: true :: true :: true :: true :: true :: true :: true :: true :: true :: true :: true :: true :: true :: true :: true :: true :: true :: true :: true :: true :: true :: true :: true :: true :: true :: true :: true :: true :: true :: true :: true :: true :: true :: true :: true :: true :: true :: true :: true :: true :: true :: true :: true :: true :: true :: false :: [])) rfl rfl (by as_aux_lemma => kernel_rfl) (fun _ _ _ h => h) (Or.inl ⟨by rfl, ?_⟩) ?_ ?_
                          rotate_left
                          · intro w'
                            go_simp
                            with_reducible rfl
                          rotate_left
                          · simp only [Act.put, List.setIfInBounds_toArray, List.set_cons_zero, List.set_cons_succ, i64_w, i32_w]
                            rfl
                          refine pure_ (i := 64) (N := some 174) (v := ?_) (a' := ?_) (List.toArray (true :: true :: true :: true :: true :: true :: true :: true :: true :: true :: true :: true :: true :: true :: true :: true :: true :: true :: true :: true :: true :: true :: true :: true :: true :: true :: true :: true :: true :: true :: true :: true :: true :: true :: true :: true :: true :: true :: true :: true :: true :: true :: true :: true :: true :: true :: true :: true :: true :: true :: true :: true :: true :: true :: true :: true :: true :: true :: true :: true :: true :: true :: true :: true :: true :: [])) rfl rfl (by as_aux_lemma => kernel_rfl) (fun _ _ _ h => h) (Or.inl ⟨by rfl, ?_⟩) ?_ ?_
                          rotate_left
                          · intro w'
                            go_simp
                            with_reducible rfl
                          rotate_left
                          · simp only [Act.put, List.setIfInBounds_toArray, List.set_cons_zero, List.set_cons_succ, i64_w, i32_w]
                            rfl
                          refine done_ (by as_aux_lemma => kernel_rfl) ?_
                          go_wp2
                          go_roundw
                          case rel => exact ⟨i + 1, l, first, _, _, h, hli, by go_num, HF, HBB⟩
                          case measure => simp [intOf]; omega
      · have hge : ¬ (i : Int) < (L.length : Int) := by omega
        have hl60 : l.length ≤ 60 := by omega
        clear hli hi
        obtain ⟨Aq, cq, rfl, hcq, _⟩ := Kd.R_reads HBB.out.rq
        obtain ⟨Ab, cb, rfl, hcb, _⟩ := Kd.R_reads HBB.out.rb
        have HCQ := Lib.hid hcq
        have HSA := Lib.hid (same_all l (by omega))
        have HAL : Hid (∀ w1, BB w w1 b q size wait first first (.slice Ab l.length cb) (.slice Aq l.length cq) l l → Calls Try.prog 16 #[.pointer (some ⟨b, 0, none⟩)] w1 fun e w' => (∃ v, e = .returned v ∧ Kd.R k37 37 w' w1.heap.size (fun _ => True) v l) ∧ Below w1.heap.size w1 w') := Lib.hid (fun w1 h => all_walk b size wait first Ab cb l (by omega) w1 (Kd.R_reads' h.rb).2.2 h.hb)
        have HAN : Hid (∀ w1 : World, Calls Try.prog 9 #[.pointer none, .agg #[.int .i64 4, .int .i64 0, .int .i64 0, .int .u64 0, .int .u64 0, .string ⟨#[]⟩, .string ⟨#[]⟩], .int .u64 0] w1 fun e w' => e = .returned (.int .i64 1) ∧ Below w1.heap.size w1 w') := Lib.hid (fun w1 => add_none ex4 0 w1)
        have HHN : Hid (∀ w1 : World, Calls Try.prog 14 #[.pointer none, .agg #[.int .i64 0, .int .i64 0, .int .i64 0, .int .u64 0, .int .u64 0, .string ⟨#[]⟩, .string ⟨#[]⟩]] w1 fun e w' => e = .returned (.bool false) ∧ Below w1.heap.size w1 w') := Lib.hid (fun w1 => has_none ⟨0, ⟨0, 0, 0, 0, ⟨#[]⟩⟩, ⟨#[]⟩⟩ w1)
        clear hcb hcq
        go_upto_region 23 with (first
          | (go_at_call 8; (with_reducible refine (clear_none _).mono ?_); rintro e w5 ⟨rfl, rfl⟩)
          | (go_at_call 9; (with_reducible refine (HAN.out _).mono ?_); rintro e w5 ⟨rfl, h5⟩; have HBB := Lib.hid (HBB.out.step h5); clear h5)
          | (go_at_call 11; (with_reducible refine (due_none _ _).mono ?_); rintro e w5 ⟨rfl, rfl⟩)
          | (go_at_call 13; (with_reducible refine (len_none _).mono ?_); rintro e w5 ⟨rfl, rfl⟩)
          | (go_at_call 14; (with_reducible refine (HHN.out _).mono ?_); rintro e w5 ⟨rfl, h5⟩; have HBB := Lib.hid (HBB.out.step h5); clear h5)
          | (go_at_call 16; (with_reducible refine (all_none _).mono ?_); rintro e w5 ⟨rfl, rfl⟩))
        have kq := blk_cell HBB.out.hq 3
        refine start_ (n := 11) (S := fun w' => w'.cell? ⟨q, 3, none⟩ = some (.slice Aq l.length cq)) (ds := []) #[false, false, false, false, false, false, false, false, false, false, false] (by kernel_rfl) rfl rfl kq (fun hHeld => ?_)
        refine one_ (i := 0) (N := (some 201)) #[true, false, false, false, false, false, false, false, false, false, false] rfl rfl (by kernel_rfl) (by decide) (fun K hK => ?_)
        refine goes_ Try.func6 (by kernel_rfl) rfl #[] (by rfl) rfl rfl (by (try simp only [List.map_toArray, List.map_cons, List.map_nil]); first | done | rfl) ?_
        with_reducible refine (awake27_walk _).mono ?_
        rintro e W1 ⟨rfl, h5⟩
        refine ⟨_, rfl, ?_⟩
        have HBB := Lib.hid (HBB.out.step (below_step (below_drew (Below.refl _ _)) h5))
        have kq := blk_cell HBB.out.hq 3
        clear h5
        refine hK.out _ _ kq (fun hHeld => ?_)
        clear hK K
        refine norm_ (a' := ?_) ?_ ?_
        rotate_left
        · show Act.put _ (some 201) _ = _
          simp only [Act.put, List.setIfInBounds_toArray, List.set_cons_zero, List.set_cons_succ, i64_w, i32_w]
          rfl
        refine pure_ (i := 1) (N := (some 202)) (v := ?_) (a' := ?_) #[true, true, false, false, false, false, false, false, false, false, false] rfl rfl (by kernel_rfl) (fun _ _ _ h => h) (Or.inl ⟨by rfl, ?_⟩) ?_ ?_
        rotate_left
        · intro w'
          go_simp
          with_reducible rfl
        rotate_left
        · simp only [Act.put, List.setIfInBounds_toArray, List.set_cons_zero, List.set_cons_succ, i64_w, i32_w]
          rfl
        refine pure_ (i := 2) (N := (some 203)) (v := ?_) (a' := ?_) #[true, true, true, false, false, false, false, false, false, false, false] rfl rfl (by kernel_rfl) (fun _ _ _ h => h) (Or.inl ⟨by rfl, ?_⟩) ?_ ?_
        rotate_left
        · intro w'
          go_simp
          with_reducible rfl
        rotate_left
        · simp only [Act.put, List.setIfInBounds_toArray, List.set_cons_zero, List.set_cons_succ, i64_w, i32_w]
          rfl
        refine pure_ (i := 4) (N := (some 205)) (v := ?_) (a' := ?_) #[true, true, true, false, true, false, false, false, false, false, false] rfl rfl (by kernel_rfl) (fun _ _ _ h => h) (Or.inl ⟨by rfl, ?_⟩) ?_ ?_
        rotate_left
        · intro w'
          go_simp
          with_reducible rfl
        rotate_left
        · simp only [Act.put, List.setIfInBounds_toArray, List.set_cons_zero, List.set_cons_succ, i64_w, i32_w]
          rfl
        refine pure_ (i := 5) (N := (some 206)) (v := ?_) (a' := ?_) #[true, true, true, false, true, true, false, false, false, false, false] rfl rfl (by kernel_rfl) (fun _ _ _ h => h) (Or.inl ⟨by rfl, ?_⟩) ?_ ?_
        rotate_left
        · intro w'
          go_simp
          with_reducible rfl
        rotate_left
        · simp only [Act.put, List.setIfInBounds_toArray, List.set_cons_zero, List.set_cons_succ, i64_w, i32_w]
          rfl
        refine pure_ (i := 6) (N := (some 207)) (v := ?_) (a' := ?_) #[true, true, true, false, true, true, true, false, false, false, false] rfl rfl (by kernel_rfl) (fun _ _ _ h => h) (Or.inl ⟨by rfl, ?_⟩) ?_ ?_
        rotate_left
        · intro w'
          go_simp
          with_reducible rfl
        rotate_left
        · simp only [Act.put, List.setIfInBounds_toArray, List.set_cons_zero, List.set_cons_succ, i64_w, i32_w]
          rfl
        refine take_ (i := 7) (N := (some 208)) (v := ?_) (a' := ?_) #[true, true, true, false, true, true, true, true, false, false, false] rfl rfl (by kernel_rfl) (fun _ _ _ h => h) (Or.inl ⟨by rfl, ?_⟩) hHeld ?_ ?_
        rotate_left
        · rintro w' s0
          go_simp
          with_reducible rfl
        rotate_left
        · simp only [Act.put, List.setIfInBounds_toArray, List.set_cons_zero, List.set_cons_succ, i64_w, i32_w]
          rfl
        refine one_ (i := 3) (N := (some 204)) #[true, true, true, true, true, true, true, true, false, false, false] rfl rfl (by kernel_rfl) (by decide) (fun K hK => ?_)
        refine goes_ Try.func16 (by kernel_rfl) rfl #[.pointer (some ⟨b, 0, none⟩)] (by rfl) rfl rfl (by (try simp only [List.map_toArray, List.map_cons, List.map_nil]); first | done | rfl) ?_
        with_reducible refine (HAL.out _ HBB.out).mono ?_
        rintro e W2 ⟨⟨va, rfl, hRa⟩, h5⟩
        refine ⟨_, rfl, ?_⟩
        have HBB := Lib.hid (HBB.out.step h5)
        have kq := blk_cell HBB.out.hq 3
        obtain ⟨Aa, ca, rfl, hca, hCa⟩ := Kd.R_reads hRa
        have HCA := Lib.hid hca
        have HCC := Lib.hid hCa
        clear h5 hRa hca hCa
        refine hK.out _ _ kq (fun hHeld => ?_)
        clear hK K
        refine norm_ (a' := ?_) ?_ ?_
        rotate_left
        · show Act.put _ (some 204) _ = _
          simp only [Act.put, List.setIfInBounds_toArray, List.set_cons_zero, List.set_cons_succ, i64_w, i32_w]
          rfl
        refine one_ (i := 8) (N := (some 209)) #[true, true, true, true, true, true, true, true, true, false, false] rfl rfl (by kernel_rfl) (by decide) (fun K hK => ?_)
        refine goes_ Try.func17 (by kernel_rfl) rfl #[.slice Aa l.length ca, .slice Aq l.length cq] (by rfl) rfl rfl (by (try simp only [List.map_toArray, List.map_cons, List.map_nil]); first | done | rfl) ?_
        with_reducible refine (muleteerref05_SameMsgs.calls _ Aa ca l Aq cq l true W2 HCC.out HCA.out (Kd.R_reads' HBB.out.rq).2.2 HCQ.out HSA.out).mono ?_
        rintro e W3 ⟨rfl, h5⟩
        refine ⟨_, rfl, ?_⟩
        have HBB := Lib.hid (HBB.out.step h5.below)
        have kq := blk_cell HBB.out.hq 3
        clear h5
        refine hK.out _ _ kq (fun hHeld => ?_)
        clear hK K
        refine norm_ (a' := ?_) ?_ ?_
        rotate_left
        · show Act.put _ (some 209) _ = _
          simp only [Act.put, List.setIfInBounds_toArray, List.set_cons_zero, List.set_cons_succ, i64_w, i32_w]
          rfl
        refine pure_ (i := 9) (N := (some 210)) (v := ?_) (a' := ?_) #[true, true, true, true, true, true, true, true, true, true, false] rfl rfl (by kernel_rfl) (fun _ _ _ h => h) (Or.inl ⟨by rfl, ?_⟩) ?_ ?_
        rotate_left
        · intro w'
          go_simp
          with_reducible rfl
        rotate_left
        · simp only [Act.put, List.setIfInBounds_toArray, List.set_cons_zero, List.set_cons_succ, i64_w, i32_w]
          rfl
        refine pure_ (i := 10) (N := (some 6)) (v := ?_) (a' := ?_) #[true, true, true, true, true, true, true, true, true, true, true] rfl rfl (by kernel_rfl) (fun _ _ _ h => h) (Or.inl ⟨by rfl, ?_⟩) ?_ ?_
        rotate_left
        · intro w'
          go_simp
          with_reducible rfl
        rotate_left
        · simp only [Act.put, List.setIfInBounds_toArray, List.set_cons_zero, List.set_cons_succ, i64_w, i32_w]
          rfl
        refine done_ (by kernel_rfl) ?_
        go_wp2
        go_ret
        exact ⟨rfl, HBB.out.bel⟩
end Go.Proofs.Ytegaadahogjeiaa.Hand
