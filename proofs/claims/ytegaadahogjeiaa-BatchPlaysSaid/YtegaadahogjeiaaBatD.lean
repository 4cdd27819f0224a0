/- An Add that adds. -/
import Derived.Test.YtegaadahogjeiaaBatC
namespace Go.Proofs.Ytegaadahogjeiaa.Hand
open Go.RowKit Go.Proofs.Ytegaadahogjeiaa.PBatchPlays Go.Proofs.YtegaadahogjeiaaW.PrintWords Go.Proofs.YtegaadahogjeiaaW.PrintLast Go.Proofs.YtegaadahogjeiaaW.PrintMore
attribute [local go_sem] max2_int min2_int max_two min_two max_three min_three max_four min_four
attribute [local go_sem high] eqA37
set_option linter.unusedVariables false
set_option linter.unusedSimpArgs false
theorem below_weakb {n n' : Nat} {w w' : World} (h : Below n w w') (hn : n' ≤ n) : Below n' w w' := ⟨h.os, h.tape, h.output, h.size, fun k hk => h.block k (Nat.lt_of_lt_of_le hk hn)⟩
theorem below_baseb {n : Nat} {w w' w'' : World} (h : Below n w w') (h' : Below n w' w'') : Below n w w'' := ⟨h'.os.trans h.os, h'.tape.trans h.tape, h'.output.trans h.output, Nat.le_trans h.size h'.size, fun k hk => (h'.block k hk).trans (h.block k hk)⟩

set_option maxHeartbeats 2000000 in
set_option maxRecDepth 100000 in
theorem badd_yes (b base : Nat) (size wait first now : Int) (v : Value) (l : List S37) (m : S37) (hl : l.length ≤ 100) (w : World) (hbase : base ≤ b) (hr : Kd.R k37 37 w base (fun _ => True) v l) (hb : w.heap[b]? = some (.cells #[.int .i64 size, .int .u64 wait, .int .u64 first, v] 51 (0, 0)))
    (h1 : rightM m = true) (h2 : hasM l m = false) (h3 : ¬ size ≤ (l.length : Int)) :
    Calls Try.prog 9 #[.pointer (some ⟨b, 0, none⟩), .agg #[.int .i64 m.f0, .int .i64 m.f1.f0, .int .i64 m.f1.f1, .int .u64 m.f1.f2, .int .u64 m.f1.f3, .string m.f1.f4, .string m.f2], .int .u64 now] w fun e w' => e = .returned (.int .i64 0) ∧ ∃ v', w'.heap[b]? = some (.cells #[.int .i64 size, .int .u64 wait, .int .u64 (if (l.length : Int) = 0 then now else first), v'] 51 (0, 0)) ∧ Kd.R k37 37 w' base (fun _ => True) v' (l ++ [m]) ∧ (v'.ownBlock = v.ownBlock ∨ ∃ g, v'.ownBlock = some g ∧ w.heap.size ≤ g) ∧ Below base w w' ∧ KeepBut w w' b v.ownBlock := by
  obtain ⟨A, c, rfl, hc, hC⟩ := Kd.R_reads hr
  have hrp := right_prog m
  have hhas := fun w2 (hw2 : Below w.heap.size w w2) => has_walk b size wait first A c l m hl hc w2 (Kd.C_below hC hw2) ((hw2.block b (blk_lt hb)).trans hb)
  rw [h1] at hrp
  rw [h2] at hhas
  obtain ⟨m0, ⟨m1, m2, m3, m4, m5⟩, m6⟩ := m
  dsimp only at hrp hhas ⊢
  have HRP := Lib.hid hrp
  have HHA := Lib.hid hhas
  have HBB := Lib.hid hbase
  have HLL : Hid ((l.length + 1) * 72 ≤ 140737488355328) := Lib.hid (by omega)
  have hb1 := below_alloc (Below.refl w.heap.size w) (.cells #[.int .i64 m0, .int .i64 m1, .int .i64 m2, .int .u64 m3, .int .u64 m4, .string m5, .string m6] 37)
  have hbx := blk_new w (.cells #[.int .i64 m0, .int .i64 m1, .int .i64 m2, .int .u64 m3, .int .u64 m4, .string m5, .string m6] 37)
  have HBX := Lib.hid hbx
  have HB := Lib.hid hb1
  have HB0 := Lib.hid hb
  have HR0 := Lib.hid hr
  have HNX : Hid (some w.heap.size ≠ (Value.slice A l.length c).ownBlock) := Lib.hid (fun e => Nat.lt_irrefl _ (Kd.R_lt hr _ e.symm))
  have HBL := Lib.hid (Nat.le_of_lt (Nat.lt_of_le_of_lt hbase (blk_lt hb)))
  have hsb : decide (size ≤ (l.length : Int)) = false := decide_eq_false h3
  clear hr hC hc hrp hhas hb1 hb h1 h2 h3 hl hbase
  have x0 := blk_cell hbx 0
  have x1 := blk_cell hbx 1
  have x2 := blk_cell hbx 2
  have x3 := blk_cell hbx 3
  have x4 := blk_cell hbx 4
  have x5 := blk_cell hbx 5
  have x6 := blk_cell hbx 6
  clear hbx
  have HNB : Hid (b ≠ w.heap.size) := Lib.hid (Nat.ne_of_lt (blk_lt HB0.out))
  obtain ⟨fst, hfst⟩ : ∃ x, (if (l.length : Int) = 0 then now else first) = x := ⟨_, rfl⟩
  rw [hfst]
  have HFST := Lib.hid hfst
  clear hfst
  go_enter Try.func9, Try.ntmps9
  go_upto_region 1 with (fail)
  generalize w.alloc _ = w1 at HBX x0 x1 x2 x3 x4 x5 x6 HB ⊢
  generalize hbxe : w.heap.size = bx at HBX x0 x1 x2 x3 x4 x5 x6 HNB HNX ⊢
  go_upto_region 5 with (first
    | (go_at_call 20; (with_reducible refine (msg_Right.calls 5 m0 m1 m2 m3 m4 m5 m6 _ _ HRP.out).mono ?_); rintro e w2 ⟨rfl, hb2⟩; have HB2 := Lib.hid hb2; have y0 := (HB2.out.cell (cell_lt x0)).trans x0; have y1 := (HB2.out.cell (cell_lt x1)).trans x1; have y2 := (HB2.out.cell (cell_lt x2)).trans x2; have y3 := (HB2.out.cell (cell_lt x3)).trans x3; have y4 := (HB2.out.cell (cell_lt x4)).trans x4; have y5 := (HB2.out.cell (cell_lt x5)).trans x5; have y6 := (HB2.out.cell (cell_lt x6)).trans x6; have HB3 := Lib.hid (below_step HB.out hb2); clear hb2)
    | (go_at_call 14; (with_reducible refine (HHA.out _ HB3.out).mono ?_); rintro e w3 ⟨rfl, hb3⟩; have HB4 := Lib.hid (below_step HB3.out hb3); have HBX4 := Lib.hid ((hb3.block bx (blk_lt ((HB2.out.block bx (blk_lt HBX.out)).trans HBX.out))).trans ((HB2.out.block bx (blk_lt HBX.out)).trans HBX.out)); clear hb3))
  have HB5 := Lib.hid ((HB4.out.block b (blk_lt HB0.out)).trans HB0.out)
  have HR5 := Lib.hid (Kd.R_below HR0.out HB4.out)
  clear x0 x1 x2 x3 x4 x5 x6 y0 y1 y2 y3 y4 y5 y6
  have k0 := blk_cell HB5.out 0
  have k3 := blk_cell HB5.out 3
  go_quiet (fail)
  generalize hnq : w3.drewN nq = w4
  have HB6 : Hid (w4.heap[b]? = some (.cells #[.int .i64 size, .int .u64 wait, .int .u64 first, .slice A l.length c] 51 (0, 0))) := Lib.hid (by rw [← hnq]; exact HB5.out)
  have HBX6 : Hid (w4.heap[bx]? = some (.cells #[.int .i64 m0, .int .i64 m1, .int .i64 m2, .int .u64 m3, .int .u64 m4, .string m5, .string m6] 37 (0, 0))) := Lib.hid (by rw [← hnq]; exact HBX4.out)
  have HR6 : Hid (Kd.R k37 37 w4 base (fun _ => True) (.slice A l.length c) l) := Lib.hid (by rw [← hnq]; exact Kd.R_drewN HR5.out nq)
  have HBW6 : Hid (Below w.heap.size w w4) := Lib.hid (by rw [← hnq]; exact pw_below_drewN HB4.out nq)
  clear hnq HB5 HR5 HBX4 k0 k3 HB4 HB3 HB2 HHA HRP HB HBX
  by_cases hn : (l.length : Int) = 0
  · have e0 : ((l.length : Int) == 0) = true := by simpa using hn
    have hfn : now = fst := by rw [← HFST.out, if_pos hn]
    subst hfn
    clear hn
    have k3 := blk_cell HB6.out 3
    have k2 := blk_cell HB6.out 2
    have f2 := blk_frozen HB6.out 2
    go_upto_region 9 with (fail)
    have HBS := Lib.hid (blk_put HB6.out 2 (.int .u64 now) rfl)
    have HBY := Lib.hid (blk_far HBX6.out (p := ⟨b, 2, none⟩) (Ne.symm HNB.out) (.int .u64 now))
    have HRO := Lib.hid (Kd.R_set HR6.out HB6.out (by decide) 2 (.int .u64 now))
    have HBW := Lib.hid ((below_weakb HBW6.out HBL.out).setCell (p := ⟨b, 2, none⟩) HBB.out (.int .u64 now))
    have HKW := Lib.hid (KeepBut.set_ (KeepBut.of_below HBW6.out b none) 2 (.int .u64 now))
    clear k3 k2 f2 HB6 HBX6 HR6 HBW6
    generalize w4.setCell _ _ = W at HBS HBY HRO HBW HKW ⊢
    have k3 := blk_cell HBS.out 3
    have y0 := blk_cell HBY.out 0
    have y1 := blk_cell HBY.out 1
    have y2 := blk_cell HBY.out 2
    have y3 := blk_cell HBY.out 3
    have y4 := blk_cell HBY.out 4
    have y5 := blk_cell HBY.out 5
    have y6 := blk_cell HBY.out 6
    have HBASE : Hid (base ≤ W.heap.size) := Lib.hid (Nat.le_trans HBL.out HKW.out.1)
    refine start_ (n := 11) (S := (fun w' => w'.cell? ⟨b, 3, none⟩ = some (.slice A l.length c) ∧ w'.cell? ⟨bx, 0, none⟩ = some (.int .i64 m0) ∧ w'.cell? ⟨bx, 1, none⟩ = some (.int .i64 m1) ∧ w'.cell? ⟨bx, 2, none⟩ = some (.int .i64 m2) ∧ w'.cell? ⟨bx, 3, none⟩ = some (.int .u64 m3) ∧ w'.cell? ⟨bx, 4, none⟩ = some (.int .u64 m4) ∧ w'.cell? ⟨bx, 5, none⟩ = some (.string m5) ∧ w'.cell? ⟨bx, 6, none⟩ = some (.string m6))) (ds := [10]) #[false, false, false, false, false, false, false, false, false, false, false] (by kernel_rfl) rfl rfl ⟨k3, y0, y1, y2, y3, y4, y5, y6⟩ (fun hHeld => ?_)
    have HBS := Lib.hid (blk_drew HBS.out)
    have HBY := Lib.hid (blk_drew HBY.out)
    have HRO := Lib.hid (Kd.R_drew HRO.out)
    have HBW := Lib.hid (HBW.out.drew)
    have HKW := Lib.hid (keep_drew HKW.out)
    have HBASE : Hid (base ≤ W.drew.heap.size) := HBASE
    clear k3 y0 y1 y2 y3 y4 y5 y6
    generalize W.drew = W at hHeld HBS HBY HRO HBW HKW HBASE ⊢
    refine pure_ (i := 0) (N := some 41) (v := ?_) (a' := ?_) #[true, false, false, false, false, false, false, false, false, false, false] rfl rfl (by kernel_rfl) (fun _ _ _ h => h) (Or.inl ⟨by rfl, ?_⟩) ?_ ?_
    rotate_left
    · intro w'
      go_simp
      with_reducible rfl
    rotate_left
    · simp only [Act.put, List.setIfInBounds_toArray, List.set_cons_zero, List.set_cons_succ, i64_w, i32_w]
      rfl
    refine pure_ (i := 1) (N := some 42) (v := ?_) (a' := ?_) #[true, true, false, false, false, false, false, false, false, false, false] rfl rfl (by kernel_rfl) (fun _ _ _ h => h) (Or.inl ⟨by rfl, ?_⟩) ?_ ?_
    rotate_left
    · intro w'
      go_simp
      with_reducible rfl
    rotate_left
    · simp only [Act.put, List.setIfInBounds_toArray, List.set_cons_zero, List.set_cons_succ, i64_w, i32_w]
      rfl
    refine pure_ (i := 2) (N := some 43) (v := ?_) (a' := ?_) #[true, true, true, false, false, false, false, false, false, false, false] rfl rfl (by kernel_rfl) (fun _ _ _ h => h) (Or.inl ⟨by rfl, ?_⟩) ?_ ?_
    rotate_left
    · intro w'
      go_simp
      with_reducible rfl
    rotate_left
    · simp only [Act.put, List.setIfInBounds_toArray, List.set_cons_zero, List.set_cons_succ, i64_w, i32_w]
      rfl
    refine pure_ (i := 3) (N := some 44) (v := ?_) (a' := ?_) #[true, true, true, true, false, false, false, false, false, false, false] rfl rfl (by kernel_rfl) (fun _ _ _ h => h) (Or.inl ⟨by rfl, ?_⟩) ?_ ?_
    rotate_left
    · intro w'
      go_simp
      with_reducible rfl
    rotate_left
    · simp only [Act.put, List.setIfInBounds_toArray, List.set_cons_zero, List.set_cons_succ, i64_w, i32_w]
      rfl
    refine take_ (i := 4) (N := some 45) (v := ?_) (a' := ?_) #[true, true, true, true, true, false, false, false, false, false, false] rfl rfl (by kernel_rfl) (fun _ _ _ h => h) (Or.inl ⟨by rfl, ?_⟩) hHeld ?_ ?_
    rotate_left
    · rintro w' ⟨s0, s1, s2, s3, s4, s5, s6, s7⟩
      go_simp
      with_reducible rfl
    rotate_left
    · simp only [Act.put, List.setIfInBounds_toArray, List.set_cons_zero, List.set_cons_succ, i64_w, i32_w]
      rfl
    refine take_ (i := 5) (N := some 46) (v := ?_) (a' := ?_) #[true, true, true, true, true, true, false, false, false, false, false] rfl rfl (by kernel_rfl) (fun _ _ _ h => h) (Or.inl ⟨by rfl, ?_⟩) hHeld ?_ ?_
    rotate_left
    · rintro w' ⟨s0, s1, s2, s3, s4, s5, s6, s7⟩
      go_simp
      with_reducible rfl
    rotate_left
    · simp only [Act.put, List.setIfInBounds_toArray, List.set_cons_zero, List.set_cons_succ, i64_w, i32_w]
      rfl
    refine one_ (i := 6) (N := some 47) #[true, true, true, true, true, true, true, false, false, false, false] rfl rfl (by kernel_rfl) (by decide) (fun K hK => ?_)
    refine value_ (w1 := ?_) (v := ?_) (by rfl) rfl ?_ ?_
    rotate_left 2
    · go_simp
      constructor
      · rfl
      · rfl
    refine hK.out _ _ ⟨(blk_cell (blk_alloc HBS.out _) 3).trans rfl, (blk_cell (blk_alloc HBY.out _) 0).trans rfl, (blk_cell (blk_alloc HBY.out _) 1).trans rfl, (blk_cell (blk_alloc HBY.out _) 2).trans rfl, (blk_cell (blk_alloc HBY.out _) 3).trans rfl, (blk_cell (blk_alloc HBY.out _) 4).trans rfl, (blk_cell (blk_alloc HBY.out _) 5).trans rfl, (blk_cell (blk_alloc HBY.out _) 6).trans rfl⟩ (fun hHeld => ?_)
    clear hK K
    refine norm_ (a' := ?_) ?_ ?_
    rotate_left
    · show Act.put _ (some 47) _ = _
      simp only [Act.put, List.setIfInBounds_toArray, List.set_cons_zero, List.set_cons_succ, i64_w, i32_w]
      rfl
    refine one_ (i := 7) (N := some 48) #[true, true, true, true, true, true, true, true, false, false, false] rfl rfl (by kernel_rfl) (by decide) (fun K hK => ?_)
    refine Kd.R_append_step k37 (w0 := W) base (by rfl) (.tmp 45) (.tmp 47) 30 37 (.agg #[.int .i64 0, .int .i64 0, .int .i64 0, .int .u64 0, .int .u64 0, .string ⟨#[]⟩, .string ⟨#[]⟩]) 72 rfl Try.underlying30 info_msg rfl (by decide) (by decide) (.slice A l.length c) l ⟨m0, ⟨m1, m2, m3, m4, m5⟩, m6⟩ [.int .i64 m0, .int .i64 m1, .int .i64 m2, .int .u64 m3, .int .u64 m4, .string m5, .string m6] (fun _ => True) (fun _ => False) rfl rfl ?aP (fun _ hk => hk.elim) ?aF ?aO ?aB ?aS ?aL ?_
    (case aP => exact k37_mkM _ _ _ _)
    (case aF => exact (fun _ _ => trivial))
    (case aO => exact (by (with_reducible repeat (first | apply Kd.R_alloc | apply Kd.R_drewN | apply Kd.R_drew)); exact HRO.out))
    (case aB => exact (by repeat (first | exact Below.refl _ _ | apply below_alloc | apply pw_below_drewN | apply below_drew1)))
    (case aS => exact HBASE.out)
    (case aL => have := HLL.out; omega)
    intro v9 w9 ho hb hg hat
    have HBS9 := Lib.hid (blk_grown (by (with_reducible repeat (first | refine blk_drewN ?_ _ | refine blk_drew ?_ | refine blk_alloc ?_ _)); exact HBS.out) hg (Kd.R_ne HRO.out HBS.out (by decide)))
    have HBY9 := Lib.hid (blk_grown (by (with_reducible repeat (first | refine blk_drewN ?_ _ | refine blk_drew ?_ | refine blk_alloc ?_ _)); exact HBY.out) hg HNX.out)
    have HR9 := Lib.hid ho
    have HB9 := Lib.hid hb
    have HG9 := Lib.hid hg
    have HT9 := Lib.hid hat
    clear ho hb hg hat
    obtain ⟨A9, c9, eo⟩ := Kd.R_slice HR9.out
    subst eo
    rw [List.length_append, List.length_singleton] at HR9 HT9
    refine hK.out _ _ ⟨(blk_cell HBS9.out 3).trans rfl, (blk_cell HBY9.out 0).trans rfl, (blk_cell HBY9.out 1).trans rfl, (blk_cell HBY9.out 2).trans rfl, (blk_cell HBY9.out 3).trans rfl, (blk_cell HBY9.out 4).trans rfl, (blk_cell HBY9.out 5).trans rfl, (blk_cell HBY9.out 6).trans rfl⟩ (fun hHeld => ?_)
    clear hK K
    refine norm_ (a' := ?_) ?_ ?_
    rotate_left
    · show Act.put _ (some 48) _ = _
      simp only [Act.put, List.setIfInBounds_toArray, List.set_cons_zero, List.set_cons_succ, i64_w, i32_w]
      rfl
    refine pure_ (i := 8) (N := some 49) (v := ?_) (a' := ?_) #[true, true, true, true, true, true, true, true, true, false, false] rfl rfl (by kernel_rfl) (fun _ _ _ h => h) (Or.inl ⟨by rfl, ?_⟩) ?_ ?_
    rotate_left
    · intro w'
      go_simp
      with_reducible rfl
    rotate_left
    · simp only [Act.put, List.setIfInBounds_toArray, List.set_cons_zero, List.set_cons_succ, i64_w, i32_w]
      rfl
    refine pure_ (i := 9) (N := some 50) (v := ?_) (a' := ?_) #[true, true, true, true, true, true, true, true, true, true, false] rfl rfl (by kernel_rfl) (fun _ _ _ h => h) (Or.inl ⟨by rfl, ?_⟩) ?_ ?_
    rotate_left
    · intro w'
      go_simp
      with_reducible rfl
    rotate_left
    · simp only [Act.put, List.setIfInBounds_toArray, List.set_cons_zero, List.set_cons_succ, i64_w, i32_w]
      rfl
    refine last_ (i := 10) (N := none) #[true, true, true, true, true, true, true, true, true, true, true] rfl rfl (by kernel_rfl) (by decide) (fun K hK => ?_)
    have hs9 : w9.cell? ⟨b, 3, none⟩ = some (.slice A l.length c) := (blk_cell HBS9.out 3).trans rfl
    have hf9 := blk_frozen HBS9.out 3
    refine skip_ (w1 := ?_) (by rfl) rfl ?_ ?_
    rotate_left
    · go_simp
      rfl
    refine hK.out _ _ ?_
    clear hK K
    refine done_ (by kernel_rfl) ?_
    go_wp2
    go_ret
    refine ⟨rfl, _, blk_put HBS9.out 3 _ rfl, Kd.R_mono (Kd.R_far (p := ⟨b, 3, none⟩) (Kd.R_types HR9.out HBS9.out (by decide)) (fun _ hk => hk.2) _) (fun _ _ => trivial), ?_, ?_, ?_⟩
    · rcases HT9.out with h | ⟨g, h1, h2⟩
      · exact .inl h
      · exact .inr ⟨g, h1, Nat.le_trans HKW.out.1 h2⟩
    · exact (below_baseb HBW.out HB9.out).setCell (p := ⟨b, 3, none⟩) HBB.out _
    · refine ⟨?_, fun k hk hkb hkr => ?_⟩
      · rw [World.size_setCell]; exact Nat.le_trans HKW.out.1 HG9.out.size
      · rw [Go.RowKit.Below.heap_setCell _ _ _ _ hkb]
        exact (HG9.out.block k (Nat.lt_of_lt_of_le hk HKW.out.1) hkr).trans (HKW.out.2 k hk hkb (by simp))
  · have e0 : ((l.length : Int) == 0) = false := by simpa using hn
    have hfn : first = fst := by rw [← HFST.out, if_neg hn]
    subst hfn
    clear hn
    have k3 := blk_cell HB6.out 3
    go_upto_region 9 with (fail)
    have HBS := HB6
    have HBY := HBX6
    have HRO := HR6
    have HBW := Lib.hid (below_weakb HBW6.out HBL.out)
    have HKW := Lib.hid (KeepBut.of_below HBW6.out b none)
    clear k3
    generalize w4 = W at HBS HBY HRO HBW HKW ⊢
    have k3 := blk_cell HBS.out 3
    have y0 := blk_cell HBY.out 0
    have y1 := blk_cell HBY.out 1
    have y2 := blk_cell HBY.out 2
    have y3 := blk_cell HBY.out 3
    have y4 := blk_cell HBY.out 4
    have y5 := blk_cell HBY.out 5
    have y6 := blk_cell HBY.out 6
    have HBASE : Hid (base ≤ W.heap.size) := Lib.hid (Nat.le_trans HBL.out HKW.out.1)
    refine start_ (n := 11) (S := (fun w' => w'.cell? ⟨b, 3, none⟩ = some (.slice A l.length c) ∧ w'.cell? ⟨bx, 0, none⟩ = some (.int .i64 m0) ∧ w'.cell? ⟨bx, 1, none⟩ = some (.int .i64 m1) ∧ w'.cell? ⟨bx, 2, none⟩ = some (.int .i64 m2) ∧ w'.cell? ⟨bx, 3, none⟩ = some (.int .u64 m3) ∧ w'.cell? ⟨bx, 4, none⟩ = some (.int .u64 m4) ∧ w'.cell? ⟨bx, 5, none⟩ = some (.string m5) ∧ w'.cell? ⟨bx, 6, none⟩ = some (.string m6))) (ds := [10]) #[false, false, false, false, false, false, false, false, false, false, false] (by kernel_rfl) rfl rfl ⟨k3, y0, y1, y2, y3, y4, y5, y6⟩ (fun hHeld => ?_)
    have HBS := Lib.hid (blk_drew HBS.out)
    have HBY := Lib.hid (blk_drew HBY.out)
    have HRO := Lib.hid (Kd.R_drew HRO.out)
    have HBW := Lib.hid (HBW.out.drew)
    have HKW := Lib.hid (keep_drew HKW.out)
    have HBASE : Hid (base ≤ W.drew.heap.size) := HBASE
    clear k3 y0 y1 y2 y3 y4 y5 y6
    generalize W.drew = W at hHeld HBS HBY HRO HBW HKW HBASE ⊢
    refine pure_ (i := 0) (N := some 41) (v := ?_) (a' := ?_) #[true, false, false, false, false, false, false, false, false, false, false] rfl rfl (by kernel_rfl) (fun _ _ _ h => h) (Or.inl ⟨by rfl, ?_⟩) ?_ ?_
    rotate_left
    · intro w'
      go_simp
      with_reducible rfl
    rotate_left
    · simp only [Act.put, List.setIfInBounds_toArray, List.set_cons_zero, List.set_cons_succ, i64_w, i32_w]
      rfl
    refine pure_ (i := 1) (N := some 42) (v := ?_) (a' := ?_) #[true, true, false, false, false, false, false, false, false, false, false] rfl rfl (by kernel_rfl) (fun _ _ _ h => h) (Or.inl ⟨by rfl, ?_⟩) ?_ ?_
    rotate_left
    · intro w'
      go_simp
      with_reducible rfl
    rotate_left
    · simp only [Act.put, List.setIfInBounds_toArray, List.set_cons_zero, List.set_cons_succ, i64_w, i32_w]
      rfl
    refine pure_ (i := 2) (N := some 43) (v := ?_) (a' := ?_) #[true, true, true, false, false, false, false, false, false, false, false] rfl rfl (by kernel_rfl) (fun _ _ _ h => h) (Or.inl ⟨by rfl, ?_⟩) ?_ ?_
    rotate_left
    · intro w'
      go_simp
      with_reducible rfl
    rotate_left
    · simp only [Act.put, List.setIfInBounds_toArray, List.set_cons_zero, List.set_cons_succ, i64_w, i32_w]
      rfl
    refine pure_ (i := 3) (N := some 44) (v := ?_) (a' := ?_) #[true, true, true, true, false, false, false, false, false, false, false] rfl rfl (by kernel_rfl) (fun _ _ _ h => h) (Or.inl ⟨by rfl, ?_⟩) ?_ ?_
    rotate_left
    · intro w'
      go_simp
      with_reducible rfl
    rotate_left
    · simp only [Act.put, List.setIfInBounds_toArray, List.set_cons_zero, List.set_cons_succ, i64_w, i32_w]
      rfl
    refine take_ (i := 4) (N := some 45) (v := ?_) (a' := ?_) #[true, true, true, true, true, false, false, false, false, false, false] rfl rfl (by kernel_rfl) (fun _ _ _ h => h) (Or.inl ⟨by rfl, ?_⟩) hHeld ?_ ?_
    rotate_left
    · rintro w' ⟨s0, s1, s2, s3, s4, s5, s6, s7⟩
      go_simp
      with_reducible rfl
    rotate_left
    · simp only [Act.put, List.setIfInBounds_toArray, List.set_cons_zero, List.set_cons_succ, i64_w, i32_w]
      rfl
    refine take_ (i := 5) (N := some 46) (v := ?_) (a' := ?_) #[true, true, true, true, true, true, false, false, false, false, false] rfl rfl (by kernel_rfl) (fun _ _ _ h => h) (Or.inl ⟨by rfl, ?_⟩) hHeld ?_ ?_
    rotate_left
    · rintro w' ⟨s0, s1, s2, s3, s4, s5, s6, s7⟩
      go_simp
      with_reducible rfl
    rotate_left
    · simp only [Act.put, List.setIfInBounds_toArray, List.set_cons_zero, List.set_cons_succ, i64_w, i32_w]
      rfl
    refine one_ (i := 6) (N := some 47) #[true, true, true, true, true, true, true, false, false, false, false] rfl rfl (by kernel_rfl) (by decide) (fun K hK => ?_)
    refine value_ (w1 := ?_) (v := ?_) (by rfl) rfl ?_ ?_
    rotate_left 2
    · go_simp
      constructor
      · rfl
      · rfl
    refine hK.out _ _ ⟨(blk_cell (blk_alloc HBS.out _) 3).trans rfl, (blk_cell (blk_alloc HBY.out _) 0).trans rfl, (blk_cell (blk_alloc HBY.out _) 1).trans rfl, (blk_cell (blk_alloc HBY.out _) 2).trans rfl, (blk_cell (blk_alloc HBY.out _) 3).trans rfl, (blk_cell (blk_alloc HBY.out _) 4).trans rfl, (blk_cell (blk_alloc HBY.out _) 5).trans rfl, (blk_cell (blk_alloc HBY.out _) 6).trans rfl⟩ (fun hHeld => ?_)
    clear hK K
    refine norm_ (a' := ?_) ?_ ?_
    rotate_left
    · show Act.put _ (some 47) _ = _
      simp only [Act.put, List.setIfInBounds_toArray, List.set_cons_zero, List.set_cons_succ, i64_w, i32_w]
      rfl
    refine one_ (i := 7) (N := some 48) #[true, true, true, true, true, true, true, true, false, false, false] rfl rfl (by kernel_rfl) (by decide) (fun K hK => ?_)
    refine Kd.R_append_step k37 (w0 := W) base (by rfl) (.tmp 45) (.tmp 47) 30 37 (.agg #[.int .i64 0, .int .i64 0, .int .i64 0, .int .u64 0, .int .u64 0, .string ⟨#[]⟩, .string ⟨#[]⟩]) 72 rfl Try.underlying30 info_msg rfl (by decide) (by decide) (.slice A l.length c) l ⟨m0, ⟨m1, m2, m3, m4, m5⟩, m6⟩ [.int .i64 m0, .int .i64 m1, .int .i64 m2, .int .u64 m3, .int .u64 m4, .string m5, .string m6] (fun _ => True) (fun _ => False) rfl rfl ?aP (fun _ hk => hk.elim) ?aF ?aO ?aB ?aS ?aL ?_
    (case aP => exact k37_mkM _ _ _ _)
    (case aF => exact (fun _ _ => trivial))
    (case aO => exact (by (with_reducible repeat (first | apply Kd.R_alloc | apply Kd.R_drewN | apply Kd.R_drew)); exact HRO.out))
    (case aB => exact (by repeat (first | exact Below.refl _ _ | apply below_alloc | apply pw_below_drewN | apply below_drew1)))
    (case aS => exact HBASE.out)
    (case aL => have := HLL.out; omega)
    intro v9 w9 ho hb hg hat
    have HBS9 := Lib.hid (blk_grown (by (with_reducible repeat (first | refine blk_drewN ?_ _ | refine blk_drew ?_ | refine blk_alloc ?_ _)); exact HBS.out) hg (Kd.R_ne HRO.out HBS.out (by decide)))
    have HBY9 := Lib.hid (blk_grown (by (with_reducible repeat (first | refine blk_drewN ?_ _ | refine blk_drew ?_ | refine blk_alloc ?_ _)); exact HBY.out) hg HNX.out)
    have HR9 := Lib.hid ho
    have HB9 := Lib.hid hb
    have HG9 := Lib.hid hg
    have HT9 := Lib.hid hat
    clear ho hb hg hat
    obtain ⟨A9, c9, eo⟩ := Kd.R_slice HR9.out
    subst eo
    rw [List.length_append, List.length_singleton] at HR9 HT9
    refine hK.out _ _ ⟨(blk_cell HBS9.out 3).trans rfl, (blk_cell HBY9.out 0).trans rfl, (blk_cell HBY9.out 1).trans rfl, (blk_cell HBY9.out 2).trans rfl, (blk_cell HBY9.out 3).trans rfl, (blk_cell HBY9.out 4).trans rfl, (blk_cell HBY9.out 5).trans rfl, (blk_cell HBY9.out 6).trans rfl⟩ (fun hHeld => ?_)
    clear hK K
    refine norm_ (a' := ?_) ?_ ?_
    rotate_left
    · show Act.put _ (some 48) _ = _
      simp only [Act.put, List.setIfInBounds_toArray, List.set_cons_zero, List.set_cons_succ, i64_w, i32_w]
      rfl
    refine pure_ (i := 8) (N := some 49) (v := ?_) (a' := ?_) #[true, true, true, true, true, true, true, true, true, false, false] rfl rfl (by kernel_rfl) (fun _ _ _ h => h) (Or.inl ⟨by rfl, ?_⟩) ?_ ?_
    rotate_left
    · intro w'
      go_simp
      with_reducible rfl
    rotate_left
    · simp only [Act.put, List.setIfInBounds_toArray, List.set_cons_zero, List.set_cons_succ, i64_w, i32_w]
      rfl
    refine pure_ (i := 9) (N := some 50) (v := ?_) (a' := ?_) #[true, true, true, true, true, true, true, true, true, true, false] rfl rfl (by kernel_rfl) (fun _ _ _ h => h) (Or.inl ⟨by rfl, ?_⟩) ?_ ?_
    rotate_left
    · intro w'
      go_simp
      with_reducible rfl
    rotate_left
    · simp only [Act.put, List.setIfInBounds_toArray, List.set_cons_zero, List.set_cons_succ, i64_w, i32_w]
      rfl
    refine last_ (i := 10) (N := none) #[true, true, true, true, true, true, true, true, true, true, true] rfl rfl (by kernel_rfl) (by decide) (fun K hK => ?_)
    have hs9 : w9.cell? ⟨b, 3, none⟩ = some (.slice A l.length c) := (blk_cell HBS9.out 3).trans rfl
    have hf9 := blk_frozen HBS9.out 3
    refine skip_ (w1 := ?_) (by rfl) rfl ?_ ?_
    rotate_left
    · go_simp
      rfl
    refine hK.out _ _ ?_
    clear hK K
    refine done_ (by kernel_rfl) ?_
    go_wp2
    go_ret
    refine ⟨rfl, _, blk_put HBS9.out 3 _ rfl, Kd.R_mono (Kd.R_far (p := ⟨b, 3, none⟩) (Kd.R_types HR9.out HBS9.out (by decide)) (fun _ hk => hk.2) _) (fun _ _ => trivial), ?_, ?_, ?_⟩
    · rcases HT9.out with h | ⟨g, h1, h2⟩
      · exact .inl h
      · exact .inr ⟨g, h1, Nat.le_trans HKW.out.1 h2⟩
    · exact (below_baseb HBW.out HB9.out).setCell (p := ⟨b, 3, none⟩) HBB.out _
    · refine ⟨?_, fun k hk hkb hkr => ?_⟩
      · rw [World.size_setCell]; exact Nat.le_trans HKW.out.1 HG9.out.size
      · rw [Go.RowKit.Below.heap_setCell _ _ _ _ hkb]
        exact (HG9.out.block k (Nat.lt_of_lt_of_le hk HKW.out.1) hkr).trans (HKW.out.2 k hk hkb (by simp))

end Go.Proofs.Ytegaadahogjeiaa.Hand
