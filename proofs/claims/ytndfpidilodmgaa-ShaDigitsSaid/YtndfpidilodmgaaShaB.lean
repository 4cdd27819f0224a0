/- What turn of package sha returns: 64 rounds, and the sum of both states. -/
import Derived.Test.YtndfpidilodmgaaShaA
set_option linter.unusedSimpArgs false
set_option linter.unusedVariables false
namespace Go.Proofs.Ytndfpidilodmgaa.Hand
open Go.RowKit Go.Proofs.YtndfpidilodmgaaW.PrintWords Go.Proofs.YtndfpidilodmgaaW.PrintLast
/-- The state of eight words. -/
abbrev T8 := Int × Int × Int × Int × Int × Int × Int × Int
def oneV (b7 b4 b5 b6 kk y : Int) : Int := IntKind.u32.wrap (IntKind.u32.wrap (IntKind.u32.wrap (IntKind.u32.wrap (b7 + bits .xor .u32 (bits .xor .u32 (rotr b4 67108864 64) (rotr b4 2097152 2048)) (rotr b4 128 33554432)) + bits .or .u32 (bits .and .u32 b4 b5) (bits .and .u32 (bits .xor .u32 (if IntKind.u32.signed = true then -1 else IntKind.u32.max) b4) b6)) + kk) + y)
def twoV (b0 b1 b2 : Int) : Int := IntKind.u32.wrap (bits .xor .u32 (bits .xor .u32 (rotr b0 1073741824 4) (rotr b0 524288 8192)) (rotr b0 1024 4194304) + bits .or .u32 (bits .or .u32 (bits .and .u32 b0 b1) (bits .and .u32 b0 b2)) (bits .and .u32 b1 b2))
/-- One round. -/
def rnd (k y : Int) : T8 → T8
  | (b0, b1, b2, b3, b4, b5, b6, b7) => (IntKind.u32.wrap (oneV b7 b4 b5 b6 k y + twoV b0 b1 b2), b0, b1, b2, IntKind.u32.wrap (b3 + oneV b7 b4 b5 b6 k y), b4, b5, b6)
def ADD (A B : List Int) : Nat → List Int
  | 0 => A
  | i + 1 => (ADD A B i).set i (IntKind.u32.wrap ((ADD A B i).getD i 0 + B.getD i 0))
theorem ADD_len (A B : List Int) : ∀ n, (ADD A B n).length = A.length
  | 0 => rfl
  | n + 1 => by rw [ADD, List.length_set]; exact ADD_len A B n
def l8 : T8 → List Int
  | (b0, b1, b2, b3, b4, b5, b6, b7) => [b0, b1, b2, b3, b4, b5, b6, b7]
/-- The state behind so many rounds. -/
def RS (s : ByteArray) : Nat → T8 → T8
  | 0, x => x
  | n + 1, x => rnd (KL.getD n 0) ((SP s 64).getD n 0) (RS s n x)
/-- What a block makes of a state. -/
def TL (s : ByteArray) (x : T8) : List Int := ADD (l8 x) (l8 (RS s 64 x)) 8
theorem cells8 {w : World} {g : Nat} {v0 v1 v2 v3 v4 v5 v6 v7 : Value} {T : Nat} (h : w.heap[g]? = some (.cells #[v0, v1, v2, v3, v4, v5, v6, v7] T (0, 0))) : w.cell? ⟨g, 0, none⟩ = some v0 ∧ w.cell? ⟨g, 1, none⟩ = some v1 ∧ w.cell? ⟨g, 2, none⟩ = some v2 ∧ w.cell? ⟨g, 3, none⟩ = some v3 ∧ w.cell? ⟨g, 4, none⟩ = some v4 ∧ w.cell? ⟨g, 5, none⟩ = some v5 ∧ w.cell? ⟨g, 6, none⟩ = some v6 ∧ w.cell? ⟨g, 7, none⟩ = some v7 := ⟨(blk_cell h 0).trans rfl, (blk_cell h 1).trans rfl, (blk_cell h 2).trans rfl, (blk_cell h 3).trans rfl, (blk_cell h 4).trans rfl, (blk_cell h 5).trans rfl, (blk_cell h 6).trans rfl, (blk_cell h 7).trans rfl⟩
theorem alloc_to {P : Program} {o : Oper} {a : Act} {w : World} {K : Act → World → Prop} {Q : Exit → Act → World → Prop} (t : TypeId) (ho : o.op = .alloc t) (cells : Array Value) (n : Nat)
    (hz : (P.info? t).map (fun i => (i.zero, i.size)) = some (some (.agg cells), n)) (h : K (a.put o.dst (.pointer (some ⟨w.heap.size, 0, none⟩))) (w.alloc (.cells cells t))) : Oper.wp P o a w K Q := by
  have hz1 := (zero_of_info hz).1
  unfold Oper.wp execOp
  simp only [ho, Instr.alloc, Sem.run_bind, hz1, Result.andThen_ok]
  exact h
set_option maxRecDepth 100000 in
set_option maxHeartbeats 16000000 in
theorem turn_walk (a0 a1 a2 a3 a4 a5 a6 a7 : Int) (s : ByteArray) (hs : s.size = 64) (w : World) : Calls Try.prog 20 #[.agg #[.int .u32 a0, .int .u32 a1, .int .u32 a2, .int .u32 a3, .int .u32 a4, .int .u32 a5, .int .u32 a6, .int .u32 a7], .string s] w fun e w' => e = .returned (.agg (row (TL s (a0, a1, a2, a3, a4, a5, a6, a7)))) ∧ Below w.heap.size w w' := by
  obtain ⟨LL, hLL⟩ : ∃ L, TL s (a0, a1, a2, a3, a4, a5, a6, a7) = L := ⟨_, rfl⟩
  rw [hLL]
  have HLL := Lib.hid hLL
  clear hLL
  obtain ⟨WL, hWL⟩ : ∃ L, row (SP s 64) = L := ⟨_, rfl⟩
  have HWL := Lib.hid hWL
  clear hWL
  go_enter Try.func20, Try.ntmps20
  go_wp2_with fail
  have S1 := Lib.hid (blk_alloc (blk_new w (.cells #[.int .u32 a0, .int .u32 a1, .int .u32 a2, .int .u32 a3, .int .u32 a4, .int .u32 a5, .int .u32 a6, .int .u32 a7] 33)) (.cells #[.int .u32 0, .int .u32 0, .int .u32 0, .int .u32 0, .int .u32 0, .int .u32 0, .int .u32 0, .int .u32 0] 33))
  have S2 := Lib.hid (heap_alloc2_new w (.cells #[.int .u32 a0, .int .u32 a1, .int .u32 a2, .int .u32 a3, .int .u32 a4, .int .u32 a5, .int .u32 a6, .int .u32 a7] 33) (.cells #[.int .u32 0, .int .u32 0, .int .u32 0, .int .u32 0, .int .u32 0, .int .u32 0, .int .u32 0, .int .u32 0] 33))
  have F := Lib.hid (below_alloc (below_alloc (Below.refl w.heap.size w) (.cells #[.int .u32 a0, .int .u32 a1, .int .u32 a2, .int .u32 a3, .int .u32 a4, .int .u32 a5, .int .u32 a6, .int .u32 a7] 33)) (.cells #[.int .u32 0, .int .u32 0, .int .u32 0, .int .u32 0, .int .u32 0, .int .u32 0, .int .u32 0, .int .u32 0] 33))
  generalize (w.alloc _).alloc _ = w1 at S1 S2 F ⊢
  obtain ⟨g, hg⟩ : ∃ g, w.heap.size = g := ⟨_, rfl⟩
  rw [hg] at S1 S2 ⊢
  have hz : g + 1 < w1.heap.size := blk_lt S2.out
  have hg0 : w.heap.size ≤ g := by omega
  have hg1 : w.heap.size ≤ g + 1 := by omega
  have hsz : WL.size = 64 := by rw [← HWL.out, row, List.size_toArray, List.length_map, SP_len]
  have hi64 : (Try.prog.info? 64).map (·.size) = some WL.size := by rw [hsz]; kernel_rfl
  have hi33 : (Try.prog.info? 33).map (·.size) = some (#[.int .u32 a0, .int .u32 a1, .int .u32 a2, .int .u32 a3, .int .u32 a4, .int .u32 a5, .int .u32 a6, .int .u32 a7] : Array Value).size := by kernel_rfl
  have hA1 : (#[.int .u32 0, .int .u32 0, .int .u32 0, .int .u32 0, .int .u32 0, .int .u32 0, .int .u32 0, .int .u32 0] : Array Value).size = (#[.int .u32 a0, .int .u32 a1, .int .u32 a2, .int .u32 a3, .int .u32 a4, .int .u32 a5, .int .u32 a6, .int .u32 a7] : Array Value).size := rfl
  have hA2 : (#[.int .u32 a0, .int .u32 a1, .int .u32 a2, .int .u32 a3, .int .u32 a4, .int .u32 a5, .int .u32 a6, .int .u32 a7] : Array Value).all (·.oneCell') = true := by simp [Value.oneCell']
  have hone : WL.all (·.oneCell') = true := by rw [← HWL.out]; exact row_one _
  go_cut [5, 6] (fun v5 v6 wx => ∃ g5 g6, v5 = .pointer (some ⟨g5, 0, none⟩) ∧ v6 = .pointer (some ⟨g6, 0, none⟩) ∧ g + 1 < g5 ∧ g + 1 < g6 ∧ g5 ≠ g6 ∧ Hid (wx.heap[g]? = some (.cells #[.int .u32 a0, .int .u32 a1, .int .u32 a2, .int .u32 a3, .int .u32 a4, .int .u32 a5, .int .u32 a6, .int .u32 a7] 33 (0, 0))) ∧ Hid (wx.heap[g + 1]? = some (.cells #[.int .u32 0, .int .u32 0, .int .u32 0, .int .u32 0, .int .u32 0, .int .u32 0, .int .u32 0, .int .u32 0] 33 (0, 0))) ∧ Hid (wx.heap[g5]? = some (.cells WL 64 (0, 0))) ∧ Hid (wx.heap[g6]? = some (.cells #[.int .u32 a0, .int .u32 a1, .int .u32 a2, .int .u32 a3, .int .u32 a4, .int .u32 a5, .int .u32 a6, .int .u32 a7] 33 (0, 0))) ∧ Hid (Below w.heap.size w wx))
  case first =>
    have c1' := cells8 (w := w1.drew) S1.out
    have f0 : Hid (w1.drew.heap[g]? = some (.cells #[.int .u32 a0, .int .u32 a1, .int .u32 a2, .int .u32 a3, .int .u32 a4, .int .u32 a5, .int .u32 a6, .int .u32 a7] 33 (0, 0))) := S1
    have z0 : Hid (w1.drew.heap[g + 1]? = some (.cells #[.int .u32 0, .int .u32 0, .int .u32 0, .int .u32 0, .int .u32 0, .int .u32 0, .int .u32 0, .int .u32 0] 33 (0, 0))) := S2
    have b0 := Lib.hid (below_drew1 F.out)
    have l0 : g + 1 < w1.drew.heap.size := hz
    refine wp_region_held_drew (S := fun w' => w'.cell? ⟨g, 0, none⟩ = some (.int .u32 a0) ∧ w'.cell? ⟨g, 1, none⟩ = some (.int .u32 a1) ∧ w'.cell? ⟨g, 2, none⟩ = some (.int .u32 a2) ∧ w'.cell? ⟨g, 3, none⟩ = some (.int .u32 a3) ∧ w'.cell? ⟨g, 4, none⟩ = some (.int .u32 a4) ∧ w'.cell? ⟨g, 5, none⟩ = some (.int .u32 a5) ∧ w'.cell? ⟨g, 6, none⟩ = some (.int .u32 a6) ∧ w'.cell? ⟨g, 7, none⟩ = some (.int .u32 a7)) (by kernel_rfl) c1' (fun hHeld => ?_)
    clear S1 S2 F hz c1'
    generalize w1.drew = x0 at f0 z0 b0 l0 hHeld ⊢
    refine wpAnyH_take (i := 0) (v := .string s) rfl (by kernel_rfl) (by kernel_rfl) (by kernel_rfl) (fun _ _ _ h => h) (Or.inl ⟨by rfl, ?_⟩) hHeld ?_
    · intro w hSw
      (try dsimp only at hSw)
      go_simp
      try with_reducible rfl
    show wpAnyH _ _ _ _ _ _ _ (Act.put _ (some 13) _) _
    simp only [Act.put, List.setIfInBounds_toArray, List.set_cons_zero, List.set_cons_succ]
    refine wpAnyH_take (i := 2) (v := .agg #[.int .u32 a0, .int .u32 a1, .int .u32 a2, .int .u32 a3, .int .u32 a4, .int .u32 a5, .int .u32 a6, .int .u32 a7]) rfl (by kernel_rfl) (by kernel_rfl) (by kernel_rfl) (fun _ _ _ h => h) (Or.inl ⟨by rfl, ?_⟩) hHeld ?_
    · intro w hSw
      (try dsimp only at hSw)
      go_simp
      try with_reducible rfl
    show wpAnyH _ _ _ _ _ _ _ (Act.put _ (some 15) _) _
    simp only [Act.put, List.setIfInBounds_toArray, List.set_cons_zero, List.set_cons_succ]
    refine wpAnyH_ready (rs := [1, 3, 4]) (by kernel_rfl) (by simp) ?_
    refine AllReadyH.cons rfl (fun K hK => ?_) ?_
    · skip
      refine goes_ Try.func27 (by kernel_rfl) rfl #[.string s] (by rfl) rfl rfl (by (try simp only [List.map_toArray, List.map_cons, List.map_nil]); first | done | rfl) ?_
      with_reducible refine (spread_walk s hs x0).mono ?_
      rintro e x1 ⟨rfl, hb⟩
      rw [HWL.out]
      refine ⟨_, rfl, ?_⟩
      have f1 := Lib.hid (blk_below f0.out hb)
      have z1 := Lib.hid (blk_below z0.out hb)
      have b1 := Lib.hid (below_step b0.out hb)
      have l1 : g + 1 < x1.heap.size := blk_lt z1.out
      show K (Act.put _ (some 14) _) _
      simp only [Act.put, List.setIfInBounds_toArray, List.set_cons_zero, List.set_cons_succ]
      refine hK.out _ _ (cells8 f1.out) (fun hHeld => ?_)
      clear hK K
      refine wpAnyH_ready (rs := [3, 4]) (by kernel_rfl) (by simp) ?_
      refine AllReadyH.cons rfl (fun K hK => ?_) ?_
      · rw [if_pos (by rfl)]
        refine alloc_to 64 rfl (row Z64) 64 (by kernel_rfl) ?_
        have f2 := Lib.hid (blk_alloc f1.out (.cells (row Z64) 64))
        have z2 := Lib.hid (blk_alloc z1.out (.cells (row Z64) 64))
        have b2 := Lib.hid (below_alloc b1.out (.cells (row Z64) 64))
        have e2 := Lib.hid (blk_new x1 (.cells (row Z64) 64))
        obtain ⟨g5, hg5⟩ : ∃ k, x1.heap.size = k := ⟨_, rfl⟩
        rw [hg5] at e2 ⊢
        have o5 : g + 1 < g5 := by omega
        generalize x1.alloc _ = x2 at f2 z2 b2 e2 ⊢
        have l2 : g + 1 < x2.heap.size := blk_lt z2.out
        show K (Act.put _ (some 5) _) _
        simp only [Act.put, List.setIfInBounds_toArray, List.set_cons_zero, List.set_cons_succ]
        refine hK.out _ _ (cells8 f2.out) (fun hHeld => ?_)
        clear hK K
        refine wpAnyH_ready (rs := [4]) (by kernel_rfl) (by simp) ?_
        refine AllReadyH.cons rfl (fun K hK => ?_) ?_
        · rw [if_pos (by rfl)]
          refine alloc_to 33 rfl #[.int .u32 0, .int .u32 0, .int .u32 0, .int .u32 0, .int .u32 0, .int .u32 0, .int .u32 0, .int .u32 0] 8 (by kernel_rfl) ?_
          have f3 := Lib.hid (blk_alloc f2.out (.cells #[.int .u32 0, .int .u32 0, .int .u32 0, .int .u32 0, .int .u32 0, .int .u32 0, .int .u32 0, .int .u32 0] 33))
          have z3 := Lib.hid (blk_alloc z2.out (.cells #[.int .u32 0, .int .u32 0, .int .u32 0, .int .u32 0, .int .u32 0, .int .u32 0, .int .u32 0, .int .u32 0] 33))
          have b3 := Lib.hid (below_alloc b2.out (.cells #[.int .u32 0, .int .u32 0, .int .u32 0, .int .u32 0, .int .u32 0, .int .u32 0, .int .u32 0, .int .u32 0] 33))
          have e3 := Lib.hid (blk_alloc e2.out (.cells #[.int .u32 0, .int .u32 0, .int .u32 0, .int .u32 0, .int .u32 0, .int .u32 0, .int .u32 0, .int .u32 0] 33))
          have h3 := Lib.hid (blk_new x2 (.cells #[.int .u32 0, .int .u32 0, .int .u32 0, .int .u32 0, .int .u32 0, .int .u32 0, .int .u32 0, .int .u32 0] 33))
          obtain ⟨g6, hg6⟩ : ∃ k, x2.heap.size = k := ⟨_, rfl⟩
          rw [hg6] at h3 ⊢
          have o6 : g + 1 < g6 := by omega
          have o56 : g5 ≠ g6 := by have := blk_lt e2.out; omega
          generalize x2.alloc _ = x3 at f3 z3 b3 e3 h3 ⊢
          have l3 : g + 1 < x3.heap.size := blk_lt z3.out
          show K (Act.put _ (some 6) _) _
          simp only [Act.put, List.setIfInBounds_toArray, List.set_cons_zero, List.set_cons_succ]
          refine hK.out _ _ (cells8 f3.out) (fun hHeld => ?_)
          clear hK K
          refine wpAnyH_ready (rs := [5]) (by kernel_rfl) (by simp) ?_
          refine AllReadyH.cons rfl (fun K hK => ?_) ?_
          · rw [if_pos (by rfl)]
            refine wp_store_row 64 _ _ rfl g5 WL rfl rfl 64 _ e3.out hi64 (by rw [hsz]; rfl) hone ?_
            have f4 := Lib.hid ((setRow_other x3 g5 _ WL (show g ≠ g5 by omega)).trans f3.out)
            have z4 := Lib.hid ((setRow_other x3 g5 _ WL (show g + 1 ≠ g5 by omega)).trans z3.out)
            have e4 := Lib.hid (setRow_heap x3 g5 _ WL 64 (0, 0) e3.out)
            have h4 := Lib.hid ((setRow_other x3 g5 _ WL (show g6 ≠ g5 by omega)).trans h3.out)
            have b4 := Lib.hid (below_setRow b3.out (show w.heap.size ≤ g5 by omega) WL)
            generalize x3.setRow _ _ = x4 at f4 z4 e4 h4 b4 ⊢
            show K (Act.put _ none _) _
            simp only [Act.put, List.setIfInBounds_toArray, List.set_cons_zero, List.set_cons_succ]
            refine hK.out _ _ (cells8 f4.out) (fun hHeld => ?_)
            clear hK K
            refine wpAnyH_ready (rs := [6]) (by kernel_rfl) (by simp) ?_
            refine AllReadyH.cons rfl (fun K hK => ?_) ?_
            · rw [if_pos (by rfl)]
              refine wp_store_row 33 (.tmp 6) (.tmp 15) rfl g6 #[.int .u32 a0, .int .u32 a1, .int .u32 a2, .int .u32 a3, .int .u32 a4, .int .u32 a5, .int .u32 a6, .int .u32 a7] ?_ ?_ 33 #[.int .u32 0, .int .u32 0, .int .u32 0, .int .u32 0, .int .u32 0, .int .u32 0, .int .u32 0, .int .u32 0] h4.out hi33 hA1 hA2 ?_
              · rfl
              · rfl
              have f5 := Lib.hid ((setRow_other x4 g6 _ #[.int .u32 a0, .int .u32 a1, .int .u32 a2, .int .u32 a3, .int .u32 a4, .int .u32 a5, .int .u32 a6, .int .u32 a7] (show g ≠ g6 by omega)).trans f4.out)
              have z5 := Lib.hid ((setRow_other x4 g6 _ #[.int .u32 a0, .int .u32 a1, .int .u32 a2, .int .u32 a3, .int .u32 a4, .int .u32 a5, .int .u32 a6, .int .u32 a7] (show g + 1 ≠ g6 by omega)).trans z4.out)
              have h5 := Lib.hid (setRow_heap x4 g6 _ #[.int .u32 a0, .int .u32 a1, .int .u32 a2, .int .u32 a3, .int .u32 a4, .int .u32 a5, .int .u32 a6, .int .u32 a7] 33 (0, 0) h4.out)
              have e5 := Lib.hid ((setRow_other x4 g6 _ #[.int .u32 a0, .int .u32 a1, .int .u32 a2, .int .u32 a3, .int .u32 a4, .int .u32 a5, .int .u32 a6, .int .u32 a7] (show g5 ≠ g6 by omega)).trans e4.out)
              have b5 := Lib.hid (below_setRow b4.out (show w.heap.size ≤ g6 by omega) #[.int .u32 a0, .int .u32 a1, .int .u32 a2, .int .u32 a3, .int .u32 a4, .int .u32 a5, .int .u32 a6, .int .u32 a7])
              generalize x4.setRow _ _ = x5 at f5 z5 e5 h5 b5 ⊢
              show K (Act.put _ none _) _
              simp only [Act.put, List.setIfInBounds_toArray, List.set_cons_zero, List.set_cons_succ]
              refine hK.out _ _ (cells8 f5.out) (fun hHeld => ?_)
              clear hK K
              refine wpAnyH_done (by kernel_rfl) ?_ _
              go_wp2_with fail
              go_meet
              exact ⟨g5, g6, rfl, rfl, o5, o6, o56, f5, z5, e5, h5, b5⟩
            exact AllReadyH.nil
          exact AllReadyH.nil
        exact AllReadyH.nil
      refine AllReadyH.cons rfl (fun K hK => ?_) ?_
      · rw [if_pos (by rfl)]
        refine alloc_to 33 rfl #[.int .u32 0, .int .u32 0, .int .u32 0, .int .u32 0, .int .u32 0, .int .u32 0, .int .u32 0, .int .u32 0] 8 (by kernel_rfl) ?_
        have f2 := Lib.hid (blk_alloc f1.out (.cells #[.int .u32 0, .int .u32 0, .int .u32 0, .int .u32 0, .int .u32 0, .int .u32 0, .int .u32 0, .int .u32 0] 33))
        have z2 := Lib.hid (blk_alloc z1.out (.cells #[.int .u32 0, .int .u32 0, .int .u32 0, .int .u32 0, .int .u32 0, .int .u32 0, .int .u32 0, .int .u32 0] 33))
        have b2 := Lib.hid (below_alloc b1.out (.cells #[.int .u32 0, .int .u32 0, .int .u32 0, .int .u32 0, .int .u32 0, .int .u32 0, .int .u32 0, .int .u32 0] 33))
        have h2 := Lib.hid (blk_new x1 (.cells #[.int .u32 0, .int .u32 0, .int .u32 0, .int .u32 0, .int .u32 0, .int .u32 0, .int .u32 0, .int .u32 0] 33))
        obtain ⟨g6, hg6⟩ : ∃ k, x1.heap.size = k := ⟨_, rfl⟩
        rw [hg6] at h2 ⊢
        have o6 : g + 1 < g6 := by omega
        generalize x1.alloc _ = x2 at f2 z2 b2 h2 ⊢
        have l2 : g + 1 < x2.heap.size := blk_lt z2.out
        show K (Act.put _ (some 6) _) _
        simp only [Act.put, List.setIfInBounds_toArray, List.set_cons_zero, List.set_cons_succ]
        refine hK.out _ _ (cells8 f2.out) (fun hHeld => ?_)
        clear hK K
        refine wpAnyH_ready (rs := [3]) (by kernel_rfl) (by simp) ?_
        refine AllReadyH.cons rfl (fun K hK => ?_) ?_
        · rw [if_pos (by rfl)]
          refine alloc_to 64 rfl (row Z64) 64 (by kernel_rfl) ?_
          have f3 := Lib.hid (blk_alloc f2.out (.cells (row Z64) 64))
          have z3 := Lib.hid (blk_alloc z2.out (.cells (row Z64) 64))
          have b3 := Lib.hid (below_alloc b2.out (.cells (row Z64) 64))
          have h3 := Lib.hid (blk_alloc h2.out (.cells (row Z64) 64))
          have e3 := Lib.hid (blk_new x2 (.cells (row Z64) 64))
          obtain ⟨g5, hg5⟩ : ∃ k, x2.heap.size = k := ⟨_, rfl⟩
          rw [hg5] at e3 ⊢
          have o5 : g + 1 < g5 := by omega
          have o56 : g5 ≠ g6 := by have := blk_lt h2.out; omega
          generalize x2.alloc _ = x3 at f3 z3 b3 e3 h3 ⊢
          have l3 : g + 1 < x3.heap.size := blk_lt z3.out
          show K (Act.put _ (some 5) _) _
          simp only [Act.put, List.setIfInBounds_toArray, List.set_cons_zero, List.set_cons_succ]
          refine hK.out _ _ (cells8 f3.out) (fun hHeld => ?_)
          clear hK K
          refine wpAnyH_ready (rs := [5]) (by kernel_rfl) (by simp) ?_
          refine AllReadyH.cons rfl (fun K hK => ?_) ?_
          · rw [if_pos (by rfl)]
            refine wp_store_row 64 _ _ rfl g5 WL rfl rfl 64 _ e3.out hi64 (by rw [hsz]; rfl) hone ?_
            have f4 := Lib.hid ((setRow_other x3 g5 _ WL (show g ≠ g5 by omega)).trans f3.out)
            have z4 := Lib.hid ((setRow_other x3 g5 _ WL (show g + 1 ≠ g5 by omega)).trans z3.out)
            have e4 := Lib.hid (setRow_heap x3 g5 _ WL 64 (0, 0) e3.out)
            have h4 := Lib.hid ((setRow_other x3 g5 _ WL (show g6 ≠ g5 by omega)).trans h3.out)
            have b4 := Lib.hid (below_setRow b3.out (show w.heap.size ≤ g5 by omega) WL)
            generalize x3.setRow _ _ = x4 at f4 z4 e4 h4 b4 ⊢
            show K (Act.put _ none _) _
            simp only [Act.put, List.setIfInBounds_toArray, List.set_cons_zero, List.set_cons_succ]
            refine hK.out _ _ (cells8 f4.out) (fun hHeld => ?_)
            clear hK K
            refine wpAnyH_ready (rs := [6]) (by kernel_rfl) (by simp) ?_
            refine AllReadyH.cons rfl (fun K hK => ?_) ?_
            · rw [if_pos (by rfl)]
              refine wp_store_row 33 (.tmp 6) (.tmp 15) rfl g6 #[.int .u32 a0, .int .u32 a1, .int .u32 a2, .int .u32 a3, .int .u32 a4, .int .u32 a5, .int .u32 a6, .int .u32 a7] ?_ ?_ 33 #[.int .u32 0, .int .u32 0, .int .u32 0, .int .u32 0, .int .u32 0, .int .u32 0, .int .u32 0, .int .u32 0] h4.out hi33 hA1 hA2 ?_
              · rfl
              · rfl
              have f5 := Lib.hid ((setRow_other x4 g6 _ #[.int .u32 a0, .int .u32 a1, .int .u32 a2, .int .u32 a3, .int .u32 a4, .int .u32 a5, .int .u32 a6, .int .u32 a7] (show g ≠ g6 by omega)).trans f4.out)
              have z5 := Lib.hid ((setRow_other x4 g6 _ #[.int .u32 a0, .int .u32 a1, .int .u32 a2, .int .u32 a3, .int .u32 a4, .int .u32 a5, .int .u32 a6, .int .u32 a7] (show g + 1 ≠ g6 by omega)).trans z4.out)
              have h5 := Lib.hid (setRow_heap x4 g6 _ #[.int .u32 a0, .int .u32 a1, .int .u32 a2, .int .u32 a3, .int .u32 a4, .int .u32 a5, .int .u32 a6, .int .u32 a7] 33 (0, 0) h4.out)
              have e5 := Lib.hid ((setRow_other x4 g6 _ #[.int .u32 a0, .int .u32 a1, .int .u32 a2, .int .u32 a3, .int .u32 a4, .int .u32 a5, .int .u32 a6, .int .u32 a7] (show g5 ≠ g6 by omega)).trans e4.out)
              have b5 := Lib.hid (below_setRow b4.out (show w.heap.size ≤ g6 by omega) #[.int .u32 a0, .int .u32 a1, .int .u32 a2, .int .u32 a3, .int .u32 a4, .int .u32 a5, .int .u32 a6, .int .u32 a7])
              generalize x4.setRow _ _ = x5 at f5 z5 e5 h5 b5 ⊢
              show K (Act.put _ none _) _
              simp only [Act.put, List.setIfInBounds_toArray, List.set_cons_zero, List.set_cons_succ]
              refine hK.out _ _ (cells8 f5.out) (fun hHeld => ?_)
              clear hK K
              refine wpAnyH_done (by kernel_rfl) ?_ _
              go_wp2_with fail
              go_meet
              exact ⟨g5, g6, rfl, rfl, o5, o6, o56, f5, z5, e5, h5, b5⟩
            exact AllReadyH.nil
          exact AllReadyH.nil
        exact AllReadyH.nil
      exact AllReadyH.nil
    refine AllReadyH.cons rfl (fun K hK => ?_) ?_
    · rw [if_pos (by rfl)]
      refine alloc_to 64 rfl (row Z64) 64 (by kernel_rfl) ?_
      have f1 := Lib.hid (blk_alloc f0.out (.cells (row Z64) 64))
      have z1 := Lib.hid (blk_alloc z0.out (.cells (row Z64) 64))
      have b1 := Lib.hid (below_alloc b0.out (.cells (row Z64) 64))
      have e1 := Lib.hid (blk_new x0 (.cells (row Z64) 64))
      obtain ⟨g5, hg5⟩ : ∃ k, x0.heap.size = k := ⟨_, rfl⟩
      rw [hg5] at e1 ⊢
      have o5 : g + 1 < g5 := by omega
      generalize x0.alloc _ = x1 at f1 z1 b1 e1 ⊢
      have l1 : g + 1 < x1.heap.size := blk_lt z1.out
      show K (Act.put _ (some 5) _) _
      simp only [Act.put, List.setIfInBounds_toArray, List.set_cons_zero, List.set_cons_succ]
      refine hK.out _ _ (cells8 f1.out) (fun hHeld => ?_)
      clear hK K
      refine wpAnyH_ready (rs := [1, 4]) (by kernel_rfl) (by simp) ?_
      refine AllReadyH.cons rfl (fun K hK => ?_) ?_
      · skip
        refine goes_ Try.func27 (by kernel_rfl) rfl #[.string s] (by rfl) rfl rfl (by (try simp only [List.map_toArray, List.map_cons, List.map_nil]); first | done | rfl) ?_
        with_reducible refine (spread_walk s hs x1).mono ?_
        rintro e x2 ⟨rfl, hb⟩
        rw [HWL.out]
        refine ⟨_, rfl, ?_⟩
        have f2 := Lib.hid (blk_below f1.out hb)
        have z2 := Lib.hid (blk_below z1.out hb)
        have b2 := Lib.hid (below_step b1.out hb)
        have e2 := Lib.hid (blk_below e1.out hb)
        have l2 : g + 1 < x2.heap.size := blk_lt z2.out
        show K (Act.put _ (some 14) _) _
        simp only [Act.put, List.setIfInBounds_toArray, List.set_cons_zero, List.set_cons_succ]
        refine hK.out _ _ (cells8 f2.out) (fun hHeld => ?_)
        clear hK K
        refine wpAnyH_ready (rs := [4]) (by kernel_rfl) (by simp) ?_
        refine AllReadyH.cons rfl (fun K hK => ?_) ?_
        · rw [if_pos (by rfl)]
          refine alloc_to 33 rfl #[.int .u32 0, .int .u32 0, .int .u32 0, .int .u32 0, .int .u32 0, .int .u32 0, .int .u32 0, .int .u32 0] 8 (by kernel_rfl) ?_
          have f3 := Lib.hid (blk_alloc f2.out (.cells #[.int .u32 0, .int .u32 0, .int .u32 0, .int .u32 0, .int .u32 0, .int .u32 0, .int .u32 0, .int .u32 0] 33))
          have z3 := Lib.hid (blk_alloc z2.out (.cells #[.int .u32 0, .int .u32 0, .int .u32 0, .int .u32 0, .int .u32 0, .int .u32 0, .int .u32 0, .int .u32 0] 33))
          have b3 := Lib.hid (below_alloc b2.out (.cells #[.int .u32 0, .int .u32 0, .int .u32 0, .int .u32 0, .int .u32 0, .int .u32 0, .int .u32 0, .int .u32 0] 33))
          have e3 := Lib.hid (blk_alloc e2.out (.cells #[.int .u32 0, .int .u32 0, .int .u32 0, .int .u32 0, .int .u32 0, .int .u32 0, .int .u32 0, .int .u32 0] 33))
          have h3 := Lib.hid (blk_new x2 (.cells #[.int .u32 0, .int .u32 0, .int .u32 0, .int .u32 0, .int .u32 0, .int .u32 0, .int .u32 0, .int .u32 0] 33))
          obtain ⟨g6, hg6⟩ : ∃ k, x2.heap.size = k := ⟨_, rfl⟩
          rw [hg6] at h3 ⊢
          have o6 : g + 1 < g6 := by omega
          have o56 : g5 ≠ g6 := by have := blk_lt e2.out; omega
          generalize x2.alloc _ = x3 at f3 z3 b3 e3 h3 ⊢
          have l3 : g + 1 < x3.heap.size := blk_lt z3.out
          show K (Act.put _ (some 6) _) _
          simp only [Act.put, List.setIfInBounds_toArray, List.set_cons_zero, List.set_cons_succ]
          refine hK.out _ _ (cells8 f3.out) (fun hHeld => ?_)
          clear hK K
          refine wpAnyH_ready (rs := [5]) (by kernel_rfl) (by simp) ?_
          refine AllReadyH.cons rfl (fun K hK => ?_) ?_
          · rw [if_pos (by rfl)]
            refine wp_store_row 64 _ _ rfl g5 WL rfl rfl 64 _ e3.out hi64 (by rw [hsz]; rfl) hone ?_
            have f4 := Lib.hid ((setRow_other x3 g5 _ WL (show g ≠ g5 by omega)).trans f3.out)
            have z4 := Lib.hid ((setRow_other x3 g5 _ WL (show g + 1 ≠ g5 by omega)).trans z3.out)
            have e4 := Lib.hid (setRow_heap x3 g5 _ WL 64 (0, 0) e3.out)
            have h4 := Lib.hid ((setRow_other x3 g5 _ WL (show g6 ≠ g5 by omega)).trans h3.out)
            have b4 := Lib.hid (below_setRow b3.out (show w.heap.size ≤ g5 by omega) WL)
            generalize x3.setRow _ _ = x4 at f4 z4 e4 h4 b4 ⊢
            show K (Act.put _ none _) _
            simp only [Act.put, List.setIfInBounds_toArray, List.set_cons_zero, List.set_cons_succ]
            refine hK.out _ _ (cells8 f4.out) (fun hHeld => ?_)
            clear hK K
            refine wpAnyH_ready (rs := [6]) (by kernel_rfl) (by simp) ?_
            refine AllReadyH.cons rfl (fun K hK => ?_) ?_
            · rw [if_pos (by rfl)]
              refine wp_store_row 33 (.tmp 6) (.tmp 15) rfl g6 #[.int .u32 a0, .int .u32 a1, .int .u32 a2, .int .u32 a3, .int .u32 a4, .int .u32 a5, .int .u32 a6, .int .u32 a7] ?_ ?_ 33 #[.int .u32 0, .int .u32 0, .int .u32 0, .int .u32 0, .int .u32 0, .int .u32 0, .int .u32 0, .int .u32 0] h4.out hi33 hA1 hA2 ?_
              · rfl
              · rfl
              have f5 := Lib.hid ((setRow_other x4 g6 _ #[.int .u32 a0, .int .u32 a1, .int .u32 a2, .int .u32 a3, .int .u32 a4, .int .u32 a5, .int .u32 a6, .int .u32 a7] (show g ≠ g6 by omega)).trans f4.out)
              have z5 := Lib.hid ((setRow_other x4 g6 _ #[.int .u32 a0, .int .u32 a1, .int .u32 a2, .int .u32 a3, .int .u32 a4, .int .u32 a5, .int .u32 a6, .int .u32 a7] (show g + 1 ≠ g6 by omega)).trans z4.out)
              have h5 := Lib.hid (setRow_heap x4 g6 _ #[.int .u32 a0, .int .u32 a1, .int .u32 a2, .int .u32 a3, .int .u32 a4, .int .u32 a5, .int .u32 a6, .int .u32 a7] 33 (0, 0) h4.out)
              have e5 := Lib.hid ((setRow_other x4 g6 _ #[.int .u32 a0, .int .u32 a1, .int .u32 a2, .int .u32 a3, .int .u32 a4, .int .u32 a5, .int .u32 a6, .int .u32 a7] (show g5 ≠ g6 by omega)).trans e4.out)
              have b5 := Lib.hid (below_setRow b4.out (show w.heap.size ≤ g6 by omega) #[.int .u32 a0, .int .u32 a1, .int .u32 a2, .int .u32 a3, .int .u32 a4, .int .u32 a5, .int .u32 a6, .int .u32 a7])
              generalize x4.setRow _ _ = x5 at f5 z5 e5 h5 b5 ⊢
              show K (Act.put _ none _) _
              simp only [Act.put, List.setIfInBounds_toArray, List.set_cons_zero, List.set_cons_succ]
              refine hK.out _ _ (cells8 f5.out) (fun hHeld => ?_)
              clear hK K
              refine wpAnyH_done (by kernel_rfl) ?_ _
              go_wp2_with fail
              go_meet
              exact ⟨g5, g6, rfl, rfl, o5, o6, o56, f5, z5, e5, h5, b5⟩
            exact AllReadyH.nil
          exact AllReadyH.nil
        exact AllReadyH.nil
      refine AllReadyH.cons rfl (fun K hK => ?_) ?_
      · rw [if_pos (by rfl)]
        refine alloc_to 33 rfl #[.int .u32 0, .int .u32 0, .int .u32 0, .int .u32 0, .int .u32 0, .int .u32 0, .int .u32 0, .int .u32 0] 8 (by kernel_rfl) ?_
        have f2 := Lib.hid (blk_alloc f1.out (.cells #[.int .u32 0, .int .u32 0, .int .u32 0, .int .u32 0, .int .u32 0, .int .u32 0, .int .u32 0, .int .u32 0] 33))
        have z2 := Lib.hid (blk_alloc z1.out (.cells #[.int .u32 0, .int .u32 0, .int .u32 0, .int .u32 0, .int .u32 0, .int .u32 0, .int .u32 0, .int .u32 0] 33))
        have b2 := Lib.hid (below_alloc b1.out (.cells #[.int .u32 0, .int .u32 0, .int .u32 0, .int .u32 0, .int .u32 0, .int .u32 0, .int .u32 0, .int .u32 0] 33))
        have e2 := Lib.hid (blk_alloc e1.out (.cells #[.int .u32 0, .int .u32 0, .int .u32 0, .int .u32 0, .int .u32 0, .int .u32 0, .int .u32 0, .int .u32 0] 33))
        have h2 := Lib.hid (blk_new x1 (.cells #[.int .u32 0, .int .u32 0, .int .u32 0, .int .u32 0, .int .u32 0, .int .u32 0, .int .u32 0, .int .u32 0] 33))
        obtain ⟨g6, hg6⟩ : ∃ k, x1.heap.size = k := ⟨_, rfl⟩
        rw [hg6] at h2 ⊢
        have o6 : g + 1 < g6 := by omega
        have o56 : g5 ≠ g6 := by have := blk_lt e1.out; omega
        generalize x1.alloc _ = x2 at f2 z2 b2 e2 h2 ⊢
        have l2 : g + 1 < x2.heap.size := blk_lt z2.out
        show K (Act.put _ (some 6) _) _
        simp only [Act.put, List.setIfInBounds_toArray, List.set_cons_zero, List.set_cons_succ]
        refine hK.out _ _ (cells8 f2.out) (fun hHeld => ?_)
        clear hK K
        refine wpAnyH_ready (rs := [1]) (by kernel_rfl) (by simp) ?_
        refine AllReadyH.cons rfl (fun K hK => ?_) ?_
        · skip
          refine goes_ Try.func27 (by kernel_rfl) rfl #[.string s] (by rfl) rfl rfl (by (try simp only [List.map_toArray, List.map_cons, List.map_nil]); first | done | rfl) ?_
          with_reducible refine (spread_walk s hs x2).mono ?_
          rintro e x3 ⟨rfl, hb⟩
          rw [HWL.out]
          refine ⟨_, rfl, ?_⟩
          have f3 := Lib.hid (blk_below f2.out hb)
          have z3 := Lib.hid (blk_below z2.out hb)
          have b3 := Lib.hid (below_step b2.out hb)
          have e3 := Lib.hid (blk_below e2.out hb)
          have h3 := Lib.hid (blk_below h2.out hb)
          have l3 : g + 1 < x3.heap.size := blk_lt z3.out
          show K (Act.put _ (some 14) _) _
          simp only [Act.put, List.setIfInBounds_toArray, List.set_cons_zero, List.set_cons_succ]
          refine hK.out _ _ (cells8 f3.out) (fun hHeld => ?_)
          clear hK K
          refine wpAnyH_ready (rs := [5]) (by kernel_rfl) (by simp) ?_
          refine AllReadyH.cons rfl (fun K hK => ?_) ?_
          · rw [if_pos (by rfl)]
            refine wp_store_row 64 _ _ rfl g5 WL rfl rfl 64 _ e3.out hi64 (by rw [hsz]; rfl) hone ?_
            have f4 := Lib.hid ((setRow_other x3 g5 _ WL (show g ≠ g5 by omega)).trans f3.out)
            have z4 := Lib.hid ((setRow_other x3 g5 _ WL (show g + 1 ≠ g5 by omega)).trans z3.out)
            have e4 := Lib.hid (setRow_heap x3 g5 _ WL 64 (0, 0) e3.out)
            have h4 := Lib.hid ((setRow_other x3 g5 _ WL (show g6 ≠ g5 by omega)).trans h3.out)
            have b4 := Lib.hid (below_setRow b3.out (show w.heap.size ≤ g5 by omega) WL)
            generalize x3.setRow _ _ = x4 at f4 z4 e4 h4 b4 ⊢
            show K (Act.put _ none _) _
            simp only [Act.put, List.setIfInBounds_toArray, List.set_cons_zero, List.set_cons_succ]
            refine hK.out _ _ (cells8 f4.out) (fun hHeld => ?_)
            clear hK K
            refine wpAnyH_ready (rs := [6]) (by kernel_rfl) (by simp) ?_
            refine AllReadyH.cons rfl (fun K hK => ?_) ?_
            · rw [if_pos (by rfl)]
              refine wp_store_row 33 (.tmp 6) (.tmp 15) rfl g6 #[.int .u32 a0, .int .u32 a1, .int .u32 a2, .int .u32 a3, .int .u32 a4, .int .u32 a5, .int .u32 a6, .int .u32 a7] ?_ ?_ 33 #[.int .u32 0, .int .u32 0, .int .u32 0, .int .u32 0, .int .u32 0, .int .u32 0, .int .u32 0, .int .u32 0] h4.out hi33 hA1 hA2 ?_
              · rfl
              · rfl
              have f5 := Lib.hid ((setRow_other x4 g6 _ #[.int .u32 a0, .int .u32 a1, .int .u32 a2, .int .u32 a3, .int .u32 a4, .int .u32 a5, .int .u32 a6, .int .u32 a7] (show g ≠ g6 by omega)).trans f4.out)
              have z5 := Lib.hid ((setRow_other x4 g6 _ #[.int .u32 a0, .int .u32 a1, .int .u32 a2, .int .u32 a3, .int .u32 a4, .int .u32 a5, .int .u32 a6, .int .u32 a7] (show g + 1 ≠ g6 by omega)).trans z4.out)
              have h5 := Lib.hid (setRow_heap x4 g6 _ #[.int .u32 a0, .int .u32 a1, .int .u32 a2, .int .u32 a3, .int .u32 a4, .int .u32 a5, .int .u32 a6, .int .u32 a7] 33 (0, 0) h4.out)
              have e5 := Lib.hid ((setRow_other x4 g6 _ #[.int .u32 a0, .int .u32 a1, .int .u32 a2, .int .u32 a3, .int .u32 a4, .int .u32 a5, .int .u32 a6, .int .u32 a7] (show g5 ≠ g6 by omega)).trans e4.out)
              have b5 := Lib.hid (below_setRow b4.out (show w.heap.size ≤ g6 by omega) #[.int .u32 a0, .int .u32 a1, .int .u32 a2, .int .u32 a3, .int .u32 a4, .int .u32 a5, .int .u32 a6, .int .u32 a7])
              generalize x4.setRow _ _ = x5 at f5 z5 e5 h5 b5 ⊢
              show K (Act.put _ none _) _
              simp only [Act.put, List.setIfInBounds_toArray, List.set_cons_zero, List.set_cons_succ]
              refine hK.out _ _ (cells8 f5.out) (fun hHeld => ?_)
              clear hK K
              refine wpAnyH_done (by kernel_rfl) ?_ _
              go_wp2_with fail
              go_meet
              exact ⟨g5, g6, rfl, rfl, o5, o6, o56, f5, z5, e5, h5, b5⟩
            exact AllReadyH.nil
          exact AllReadyH.nil
        exact AllReadyH.nil
      exact AllReadyH.nil
    refine AllReadyH.cons rfl (fun K hK => ?_) ?_
    · rw [if_pos (by rfl)]
      refine alloc_to 33 rfl #[.int .u32 0, .int .u32 0, .int .u32 0, .int .u32 0, .int .u32 0, .int .u32 0, .int .u32 0, .int .u32 0] 8 (by kernel_rfl) ?_
      have f1 := Lib.hid (blk_alloc f0.out (.cells #[.int .u32 0, .int .u32 0, .int .u32 0, .int .u32 0, .int .u32 0, .int .u32 0, .int .u32 0, .int .u32 0] 33))
      have z1 := Lib.hid (blk_alloc z0.out (.cells #[.int .u32 0, .int .u32 0, .int .u32 0, .int .u32 0, .int .u32 0, .int .u32 0, .int .u32 0, .int .u32 0] 33))
      have b1 := Lib.hid (below_alloc b0.out (.cells #[.int .u32 0, .int .u32 0, .int .u32 0, .int .u32 0, .int .u32 0, .int .u32 0, .int .u32 0, .int .u32 0] 33))
      have h1 := Lib.hid (blk_new x0 (.cells #[.int .u32 0, .int .u32 0, .int .u32 0, .int .u32 0, .int .u32 0, .int .u32 0, .int .u32 0, .int .u32 0] 33))
      obtain ⟨g6, hg6⟩ : ∃ k, x0.heap.size = k := ⟨_, rfl⟩
      rw [hg6] at h1 ⊢
      have o6 : g + 1 < g6 := by omega
      generalize x0.alloc _ = x1 at f1 z1 b1 h1 ⊢
      have l1 : g + 1 < x1.heap.size := blk_lt z1.out
      show K (Act.put _ (some 6) _) _
      simp only [Act.put, List.setIfInBounds_toArray, List.set_cons_zero, List.set_cons_succ]
      refine hK.out _ _ (cells8 f1.out) (fun hHeld => ?_)
      clear hK K
      refine wpAnyH_ready (rs := [1, 3]) (by kernel_rfl) (by simp) ?_
      refine AllReadyH.cons rfl (fun K hK => ?_) ?_
      · skip
        refine goes_ Try.func27 (by kernel_rfl) rfl #[.string s] (by rfl) rfl rfl (by (try simp only [List.map_toArray, List.map_cons, List.map_nil]); first | done | rfl) ?_
        with_reducible refine (spread_walk s hs x1).mono ?_
        rintro e x2 ⟨rfl, hb⟩
        rw [HWL.out]
        refine ⟨_, rfl, ?_⟩
        have f2 := Lib.hid (blk_below f1.out hb)
        have z2 := Lib.hid (blk_below z1.out hb)
        have b2 := Lib.hid (below_step b1.out hb)
        have h2 := Lib.hid (blk_below h1.out hb)
        have l2 : g + 1 < x2.heap.size := blk_lt z2.out
        show K (Act.put _ (some 14) _) _
        simp only [Act.put, List.setIfInBounds_toArray, List.set_cons_zero, List.set_cons_succ]
        refine hK.out _ _ (cells8 f2.out) (fun hHeld => ?_)
        clear hK K
        refine wpAnyH_ready (rs := [3]) (by kernel_rfl) (by simp) ?_
        refine AllReadyH.cons rfl (fun K hK => ?_) ?_
        · rw [if_pos (by rfl)]
          refine alloc_to 64 rfl (row Z64) 64 (by kernel_rfl) ?_
          have f3 := Lib.hid (blk_alloc f2.out (.cells (row Z64) 64))
          have z3 := Lib.hid (blk_alloc z2.out (.cells (row Z64) 64))
          have b3 := Lib.hid (below_alloc b2.out (.cells (row Z64) 64))
          have h3 := Lib.hid (blk_alloc h2.out (.cells (row Z64) 64))
          have e3 := Lib.hid (blk_new x2 (.cells (row Z64) 64))
          obtain ⟨g5, hg5⟩ : ∃ k, x2.heap.size = k := ⟨_, rfl⟩
          rw [hg5] at e3 ⊢
          have o5 : g + 1 < g5 := by omega
          have o56 : g5 ≠ g6 := by have := blk_lt h2.out; omega
          generalize x2.alloc _ = x3 at f3 z3 b3 e3 h3 ⊢
          have l3 : g + 1 < x3.heap.size := blk_lt z3.out
          show K (Act.put _ (some 5) _) _
          simp only [Act.put, List.setIfInBounds_toArray, List.set_cons_zero, List.set_cons_succ]
          refine hK.out _ _ (cells8 f3.out) (fun hHeld => ?_)
          clear hK K
          refine wpAnyH_ready (rs := [5]) (by kernel_rfl) (by simp) ?_
          refine AllReadyH.cons rfl (fun K hK => ?_) ?_
          · rw [if_pos (by rfl)]
            refine wp_store_row 64 _ _ rfl g5 WL rfl rfl 64 _ e3.out hi64 (by rw [hsz]; rfl) hone ?_
            have f4 := Lib.hid ((setRow_other x3 g5 _ WL (show g ≠ g5 by omega)).trans f3.out)
            have z4 := Lib.hid ((setRow_other x3 g5 _ WL (show g + 1 ≠ g5 by omega)).trans z3.out)
            have e4 := Lib.hid (setRow_heap x3 g5 _ WL 64 (0, 0) e3.out)
            have h4 := Lib.hid ((setRow_other x3 g5 _ WL (show g6 ≠ g5 by omega)).trans h3.out)
            have b4 := Lib.hid (below_setRow b3.out (show w.heap.size ≤ g5 by omega) WL)
            generalize x3.setRow _ _ = x4 at f4 z4 e4 h4 b4 ⊢
            show K (Act.put _ none _) _
            simp only [Act.put, List.setIfInBounds_toArray, List.set_cons_zero, List.set_cons_succ]
            refine hK.out _ _ (cells8 f4.out) (fun hHeld => ?_)
            clear hK K
            refine wpAnyH_ready (rs := [6]) (by kernel_rfl) (by simp) ?_
            refine AllReadyH.cons rfl (fun K hK => ?_) ?_
            · rw [if_pos (by rfl)]
              refine wp_store_row 33 (.tmp 6) (.tmp 15) rfl g6 #[.int .u32 a0, .int .u32 a1, .int .u32 a2, .int .u32 a3, .int .u32 a4, .int .u32 a5, .int .u32 a6, .int .u32 a7] ?_ ?_ 33 #[.int .u32 0, .int .u32 0, .int .u32 0, .int .u32 0, .int .u32 0, .int .u32 0, .int .u32 0, .int .u32 0] h4.out hi33 hA1 hA2 ?_
              · rfl
              · rfl
              have f5 := Lib.hid ((setRow_other x4 g6 _ #[.int .u32 a0, .int .u32 a1, .int .u32 a2, .int .u32 a3, .int .u32 a4, .int .u32 a5, .int .u32 a6, .int .u32 a7] (show g ≠ g6 by omega)).trans f4.out)
              have z5 := Lib.hid ((setRow_other x4 g6 _ #[.int .u32 a0, .int .u32 a1, .int .u32 a2, .int .u32 a3, .int .u32 a4, .int .u32 a5, .int .u32 a6, .int .u32 a7] (show g + 1 ≠ g6 by omega)).trans z4.out)
              have h5 := Lib.hid (setRow_heap x4 g6 _ #[.int .u32 a0, .int .u32 a1, .int .u32 a2, .int .u32 a3, .int .u32 a4, .int .u32 a5, .int .u32 a6, .int .u32 a7] 33 (0, 0) h4.out)
              have e5 := Lib.hid ((setRow_other x4 g6 _ #[.int .u32 a0, .int .u32 a1, .int .u32 a2, .int .u32 a3, .int .u32 a4, .int .u32 a5, .int .u32 a6, .int .u32 a7] (show g5 ≠ g6 by omega)).trans e4.out)
              have b5 := Lib.hid (below_setRow b4.out (show w.heap.size ≤ g6 by omega) #[.int .u32 a0, .int .u32 a1, .int .u32 a2, .int .u32 a3, .int .u32 a4, .int .u32 a5, .int .u32 a6, .int .u32 a7])
              generalize x4.setRow _ _ = x5 at f5 z5 e5 h5 b5 ⊢
              show K (Act.put _ none _) _
              simp only [Act.put, List.setIfInBounds_toArray, List.set_cons_zero, List.set_cons_succ]
              refine hK.out _ _ (cells8 f5.out) (fun hHeld => ?_)
              clear hK K
              refine wpAnyH_done (by kernel_rfl) ?_ _
              go_wp2_with fail
              go_meet
              exact ⟨g5, g6, rfl, rfl, o5, o6, o56, f5, z5, e5, h5, b5⟩
            exact AllReadyH.nil
          exact AllReadyH.nil
        exact AllReadyH.nil
      refine AllReadyH.cons rfl (fun K hK => ?_) ?_
      · rw [if_pos (by rfl)]
        refine alloc_to 64 rfl (row Z64) 64 (by kernel_rfl) ?_
        have f2 := Lib.hid (blk_alloc f1.out (.cells (row Z64) 64))
        have z2 := Lib.hid (blk_alloc z1.out (.cells (row Z64) 64))
        have b2 := Lib.hid (below_alloc b1.out (.cells (row Z64) 64))
        have h2 := Lib.hid (blk_alloc h1.out (.cells (row Z64) 64))
        have e2 := Lib.hid (blk_new x1 (.cells (row Z64) 64))
        obtain ⟨g5, hg5⟩ : ∃ k, x1.heap.size = k := ⟨_, rfl⟩
        rw [hg5] at e2 ⊢
        have o5 : g + 1 < g5 := by omega
        have o56 : g5 ≠ g6 := by have := blk_lt h1.out; omega
        generalize x1.alloc _ = x2 at f2 z2 b2 e2 h2 ⊢
        have l2 : g + 1 < x2.heap.size := blk_lt z2.out
        show K (Act.put _ (some 5) _) _
        simp only [Act.put, List.setIfInBounds_toArray, List.set_cons_zero, List.set_cons_succ]
        refine hK.out _ _ (cells8 f2.out) (fun hHeld => ?_)
        clear hK K
        refine wpAnyH_ready (rs := [1]) (by kernel_rfl) (by simp) ?_
        refine AllReadyH.cons rfl (fun K hK => ?_) ?_
        · skip
          refine goes_ Try.func27 (by kernel_rfl) rfl #[.string s] (by rfl) rfl rfl (by (try simp only [List.map_toArray, List.map_cons, List.map_nil]); first | done | rfl) ?_
          with_reducible refine (spread_walk s hs x2).mono ?_
          rintro e x3 ⟨rfl, hb⟩
          rw [HWL.out]
          refine ⟨_, rfl, ?_⟩
          have f3 := Lib.hid (blk_below f2.out hb)
          have z3 := Lib.hid (blk_below z2.out hb)
          have b3 := Lib.hid (below_step b2.out hb)
          have e3 := Lib.hid (blk_below e2.out hb)
          have h3 := Lib.hid (blk_below h2.out hb)
          have l3 : g + 1 < x3.heap.size := blk_lt z3.out
          show K (Act.put _ (some 14) _) _
          simp only [Act.put, List.setIfInBounds_toArray, List.set_cons_zero, List.set_cons_succ]
          refine hK.out _ _ (cells8 f3.out) (fun hHeld => ?_)
          clear hK K
          refine wpAnyH_ready (rs := [5]) (by kernel_rfl) (by simp) ?_
          refine AllReadyH.cons rfl (fun K hK => ?_) ?_
          · rw [if_pos (by rfl)]
            refine wp_store_row 64 _ _ rfl g5 WL rfl rfl 64 _ e3.out hi64 (by rw [hsz]; rfl) hone ?_
            have f4 := Lib.hid ((setRow_other x3 g5 _ WL (show g ≠ g5 by omega)).trans f3.out)
            have z4 := Lib.hid ((setRow_other x3 g5 _ WL (show g + 1 ≠ g5 by omega)).trans z3.out)
            have e4 := Lib.hid (setRow_heap x3 g5 _ WL 64 (0, 0) e3.out)
            have h4 := Lib.hid ((setRow_other x3 g5 _ WL (show g6 ≠ g5 by omega)).trans h3.out)
            have b4 := Lib.hid (below_setRow b3.out (show w.heap.size ≤ g5 by omega) WL)
            generalize x3.setRow _ _ = x4 at f4 z4 e4 h4 b4 ⊢
            show K (Act.put _ none _) _
            simp only [Act.put, List.setIfInBounds_toArray, List.set_cons_zero, List.set_cons_succ]
            refine hK.out _ _ (cells8 f4.out) (fun hHeld => ?_)
            clear hK K
            refine wpAnyH_ready (rs := [6]) (by kernel_rfl) (by simp) ?_
            refine AllReadyH.cons rfl (fun K hK => ?_) ?_
            · rw [if_pos (by rfl)]
              refine wp_store_row 33 (.tmp 6) (.tmp 15) rfl g6 #[.int .u32 a0, .int .u32 a1, .int .u32 a2, .int .u32 a3, .int .u32 a4, .int .u32 a5, .int .u32 a6, .int .u32 a7] ?_ ?_ 33 #[.int .u32 0, .int .u32 0, .int .u32 0, .int .u32 0, .int .u32 0, .int .u32 0, .int .u32 0, .int .u32 0] h4.out hi33 hA1 hA2 ?_
              · rfl
              · rfl
              have f5 := Lib.hid ((setRow_other x4 g6 _ #[.int .u32 a0, .int .u32 a1, .int .u32 a2, .int .u32 a3, .int .u32 a4, .int .u32 a5, .int .u32 a6, .int .u32 a7] (show g ≠ g6 by omega)).trans f4.out)
              have z5 := Lib.hid ((setRow_other x4 g6 _ #[.int .u32 a0, .int .u32 a1, .int .u32 a2, .int .u32 a3, .int .u32 a4, .int .u32 a5, .int .u32 a6, .int .u32 a7] (show g + 1 ≠ g6 by omega)).trans z4.out)
              have h5 := Lib.hid (setRow_heap x4 g6 _ #[.int .u32 a0, .int .u32 a1, .int .u32 a2, .int .u32 a3, .int .u32 a4, .int .u32 a5, .int .u32 a6, .int .u32 a7] 33 (0, 0) h4.out)
              have e5 := Lib.hid ((setRow_other x4 g6 _ #[.int .u32 a0, .int .u32 a1, .int .u32 a2, .int .u32 a3, .int .u32 a4, .int .u32 a5, .int .u32 a6, .int .u32 a7] (show g5 ≠ g6 by omega)).trans e4.out)
              have b5 := Lib.hid (below_setRow b4.out (show w.heap.size ≤ g6 by omega) #[.int .u32 a0, .int .u32 a1, .int .u32 a2, .int .u32 a3, .int .u32 a4, .int .u32 a5, .int .u32 a6, .int .u32 a7])
              generalize x4.setRow _ _ = x5 at f5 z5 e5 h5 b5 ⊢
              show K (Act.put _ none _) _
              simp only [Act.put, List.setIfInBounds_toArray, List.set_cons_zero, List.set_cons_succ]
              refine hK.out _ _ (cells8 f5.out) (fun hHeld => ?_)
              clear hK K
              refine wpAnyH_done (by kernel_rfl) ?_ _
              go_wp2_with fail
              go_meet
              exact ⟨g5, g6, rfl, rfl, o5, o6, o56, f5, z5, e5, h5, b5⟩
            exact AllReadyH.nil
          exact AllReadyH.nil
        exact AllReadyH.nil
      exact AllReadyH.nil
    exact AllReadyH.nil
  case rest =>
    obtain ⟨g5, g6, rfl, rfl, o5, o6, o56, f, z, e, h, b⟩ := hcut
    clear S1 S2 F
    have q5 : w.heap.size ≤ g5 := by omega
    have q6 : w.heap.size ≤ g6 := by omega
    have o65 : g6 ≠ g5 := Ne.symm o56
    go_wp2_with fail
    go_loopw [16] (fun v16 wr => ∃ (n : Nat) (b0 b1 b2 b3 b4 b5 b6 b7 : Int), n ≤ 64 ∧ v16 = .int .i64 n ∧ Hid (RS s n (a0, a1, a2, a3, a4, a5, a6, a7) = (b0, b1, b2, b3, b4, b5, b6, b7)) ∧ Hid (wr.heap[g]? = some (.cells #[.int .u32 a0, .int .u32 a1, .int .u32 a2, .int .u32 a3, .int .u32 a4, .int .u32 a5, .int .u32 a6, .int .u32 a7] 33 (0, 0))) ∧ Hid (wr.heap[g + 1]? = some (.cells #[.int .u32 0, .int .u32 0, .int .u32 0, .int .u32 0, .int .u32 0, .int .u32 0, .int .u32 0, .int .u32 0] 33 (0, 0))) ∧ Hid (wr.heap[g5]? = some (.cells WL 64 (0, 0))) ∧ Hid (wr.heap[g6]? = some (.cells #[.int .u32 b0, .int .u32 b1, .int .u32 b2, .int .u32 b3, .int .u32 b4, .int .u32 b5, .int .u32 b6, .int .u32 b7] 33 (0, 0))) ∧ Hid (Below w.heap.size w wr)) (fun v16 _ => 64 - (intOf v16).toNat)
    case atStart => exact ⟨0, a0, a1, a2, a3, a4, a5, a6, a7, by omega, rfl, Lib.hid rfl, f, z, e, h, b⟩
    case round =>
      clear f z e h b
      obtain ⟨n, b0, b1, b2, b3, b4, b5, b6, b7, hn, rfl, hR, f, z, e, h, b⟩ := hrel
      by_cases c64 : n < 64
      · have hlt : (n : Int) < 64 := by omega
        have hn0 : (0 : Int) ≤ (n : Int) := by omega
        obtain ⟨y, hy⟩ : ∃ y, (SP s 64).getD n 0 = y := ⟨_, rfl⟩
        have HY := Lib.hid hy
        clear hy
        obtain ⟨k0, k1, k2, k3, k4, k5, k6, k7⟩ := cells8 h.out
        go_wp2_with fail
        go_quiet (fail)
        go_wp2_with fail
        clear k0 k1 k2 k3 k4 k5 k6 k7
        have dN := pw_below_drewN (Below.refl wr.heap.size wr) nq
        have f3 := Lib.hid (blk_below f.out dN)
        have z3 := Lib.hid (blk_below z.out dN)
        have e3 := Lib.hid (blk_below e.out dN)
        have h3 := Lib.hid (blk_below h.out dN)
        have q3 := Lib.hid (below_step b.out dN)
        clear f z e h b dN
        generalize wr.drewN nq = w3 at f3 z3 e3 h3 q3 ⊢
        obtain ⟨kk, hkk⟩ : ∃ k, KL.getD n 0 = k := ⟨_, rfl⟩
        have HCON : Hid (∀ wx : World, Calls Try.prog 29 #[.int .i64 (n : Int)] wx fun e w' => e = .returned (.int .u32 kk) ∧ Below wx.heap.size wx w') := Lib.hid (fun wx => hkk ▸ constant_walk n c64 wx)
        have HKK := Lib.hid hkk
        clear hkk
        have hcy : ∀ wx : World, wx.heap[g5]? = some (.cells WL 64 (0, 0)) → wx.cell? ⟨g5, n, none⟩ = some (.int .u32 y) := fun wx hx => by
          rw [← HWL.out] at hx
          rw [row_get hx n (by rw [SP_len]; omega), HY.out]
        have HCY := Lib.hid hcy
        clear hcy
        go_cut [10] (fun v10 wx => v10 = .int .u32 (oneV b7 b4 b5 b6 kk y) ∧ Hid (wx.heap[g]? = some (.cells #[.int .u32 a0, .int .u32 a1, .int .u32 a2, .int .u32 a3, .int .u32 a4, .int .u32 a5, .int .u32 a6, .int .u32 a7] 33 (0, 0))) ∧ Hid (wx.heap[g + 1]? = some (.cells #[.int .u32 0, .int .u32 0, .int .u32 0, .int .u32 0, .int .u32 0, .int .u32 0, .int .u32 0, .int .u32 0] 33 (0, 0))) ∧ Hid (wx.heap[g5]? = some (.cells WL 64 (0, 0))) ∧ Hid (wx.heap[g6]? = some (.cells #[.int .u32 b0, .int .u32 b1, .int .u32 b2, .int .u32 b3, .int .u32 b4, .int .u32 b5, .int .u32 b6, .int .u32 b7] 33 (0, 0))) ∧ Hid (Below w.heap.size w wx))
        case first J K2 hJ hK2 =>
          have r8 := cells8 h3.out
          have c3 := And.intro r8.2.2.2.2.2.1 (And.intro r8.2.2.2.2.2.2.1 (And.intro r8.2.2.2.2.2.2.2 (HCY.out _ e3.out)))
          have c3' : w3.drew.cell? ⟨g6, 5, none⟩ = _ ∧ w3.drew.cell? ⟨g6, 6, none⟩ = _ ∧ w3.drew.cell? ⟨g6, 7, none⟩ = _ ∧ w3.drew.cell? ⟨g5, n, none⟩ = _ := c3
          clear r8
          refine start_ (n := 30) (S := fun w' => w'.cell? ⟨g6, 5, none⟩ = some (.int .u32 b5) ∧ w'.cell? ⟨g6, 6, none⟩ = some (.int .u32 b6) ∧ w'.cell? ⟨g6, 7, none⟩ = some (.int .u32 b7) ∧ w'.cell? ⟨g5, n, none⟩ = some (.int .u32 y)) (ds := []) #[false, false, false, false, false, false, false, false, false, false, false, false, false, false, false, false, false, false, false, false, false, false, false, false, false, false, false, false, false, false] (by kernel_rfl) rfl rfl c3' (fun hHeld => ?_)
          refine pure_ (i := 0) (N := (some 23)) (v := ?_) (a' := ?_) #[true, false, false, false, false, false, false, false, false, false, false, false, false, false, false, false, false, false, false, false, false, false, false, false, false, false, false, false, false, false] rfl rfl (by kernel_rfl) (fun _ _ _ h => h) (Or.inl ⟨by rfl, ?_⟩) ?_ ?_
          rotate_left
          · intro w'
            go_simp
            with_reducible rfl
          rotate_left
          · simp only [Act.put, List.setIfInBounds_toArray, List.set_cons_zero, List.set_cons_succ, i64_w, i32_w]
            rfl
          refine pure_ (i := 2) (N := (some 25)) (v := ?_) (a' := ?_) #[true, false, true, false, false, false, false, false, false, false, false, false, false, false, false, false, false, false, false, false, false, false, false, false, false, false, false, false, false, false] rfl rfl (by kernel_rfl) (fun _ _ _ h => h) (Or.inl ⟨by rfl, ?_⟩) ?_ ?_
          rotate_left
          · intro w'
            go_simp
            with_reducible rfl
          rotate_left
          · simp only [Act.put, List.setIfInBounds_toArray, List.set_cons_zero, List.set_cons_succ, i64_w, i32_w]
            rfl
          refine pure_ (i := 4) (N := (some 27)) (v := ?_) (a' := ?_) #[true, false, true, false, true, false, false, false, false, false, false, false, false, false, false, false, false, false, false, false, false, false, false, false, false, false, false, false, false, false] rfl rfl (by kernel_rfl) (fun _ _ _ h => h) (Or.inl ⟨by rfl, ?_⟩) ?_ ?_
          rotate_left
          · intro w'
            go_simp
            with_reducible rfl
          rotate_left
          · simp only [Act.put, List.setIfInBounds_toArray, List.set_cons_zero, List.set_cons_succ, i64_w, i32_w]
            rfl
          refine pure_ (i := 7) (N := (some 30)) (v := ?_) (a' := ?_) #[true, false, true, false, true, false, false, true, false, false, false, false, false, false, false, false, false, false, false, false, false, false, false, false, false, false, false, false, false, false] rfl rfl (by kernel_rfl) (fun _ _ _ h => h) (Or.inl ⟨by rfl, ?_⟩) ?_ ?_
          rotate_left
          · intro w'
            go_simp
            with_reducible rfl
          rotate_left
          · simp only [Act.put, List.setIfInBounds_toArray, List.set_cons_zero, List.set_cons_succ, i64_w, i32_w]
            rfl
          refine pure_ (i := 11) (N := (some 34)) (v := ?_) (a' := ?_) #[true, false, true, false, true, false, false, true, false, false, false, true, false, false, false, false, false, false, false, false, false, false, false, false, false, false, false, false, false, false] rfl rfl (by kernel_rfl) (fun _ _ _ h => h) (Or.inl ⟨by rfl, ?_⟩) ?_ ?_
          rotate_left
          · intro w'
            go_simp
            with_reducible rfl
          rotate_left
          · simp only [Act.put, List.setIfInBounds_toArray, List.set_cons_zero, List.set_cons_succ, i64_w, i32_w]
            rfl
          refine pure_ (i := 12) (N := (some 35)) (v := ?_) (a' := ?_) #[true, false, true, false, true, false, false, true, false, false, false, true, true, false, false, false, false, false, false, false, false, false, false, false, false, false, false, false, false, false] rfl rfl (by kernel_rfl) (fun _ _ _ h => h) (Or.inl ⟨by rfl, ?_⟩) ?_ ?_
          rotate_left
          · intro w'
            go_simp
            with_reducible rfl
          rotate_left
          · simp only [Act.put, List.setIfInBounds_toArray, List.set_cons_zero, List.set_cons_succ, i64_w, i32_w]
            rfl
          refine pure_ (i := 15) (N := (some 38)) (v := ?_) (a' := ?_) #[true, false, true, false, true, false, false, true, false, false, false, true, true, false, false, true, false, false, false, false, false, false, false, false, false, false, false, false, false, false] rfl rfl (by kernel_rfl) (fun _ _ _ h => h) (Or.inl ⟨by rfl, ?_⟩) ?_ ?_
          rotate_left
          · intro w'
            go_simp
            with_reducible rfl
          rotate_left
          · simp only [Act.put, List.setIfInBounds_toArray, List.set_cons_zero, List.set_cons_succ, i64_w, i32_w]
            rfl
          refine pure_ (i := 16) (N := (some 39)) (v := ?_) (a' := ?_) #[true, false, true, false, true, false, false, true, false, false, false, true, true, false, false, true, true, false, false, false, false, false, false, false, false, false, false, false, false, false] rfl rfl (by kernel_rfl) (fun _ _ _ h => h) (Or.inl ⟨by rfl, ?_⟩) ?_ ?_
          rotate_left
          · intro w'
            go_simp
            with_reducible rfl
          rotate_left
          · simp only [Act.put, List.setIfInBounds_toArray, List.set_cons_zero, List.set_cons_succ, i64_w, i32_w]
            rfl
          refine pure_ (i := 17) (N := (some 40)) (v := ?_) (a' := ?_) #[true, false, true, false, true, false, false, true, false, false, false, true, true, false, false, true, true, true, false, false, false, false, false, false, false, false, false, false, false, false] rfl rfl (by kernel_rfl) (fun _ _ _ h => h) (Or.inl ⟨by rfl, ?_⟩) ?_ ?_
          rotate_left
          · intro w'
            go_simp
            with_reducible rfl
          rotate_left
          · simp only [Act.put, List.setIfInBounds_toArray, List.set_cons_zero, List.set_cons_succ, i64_w, i32_w]
            rfl
          refine pure_ (i := 22) (N := (some 45)) (v := ?_) (a' := ?_) #[true, false, true, false, true, false, false, true, false, false, false, true, true, false, false, true, true, true, false, false, false, false, true, false, false, false, false, false, false, false] rfl rfl (by kernel_rfl) (fun _ _ _ h => h) (Or.inl ⟨by rfl, ?_⟩) ?_ ?_
          rotate_left
          · intro w'
            go_simp
            with_reducible rfl
          rotate_left
          · simp only [Act.put, List.setIfInBounds_toArray, List.set_cons_zero, List.set_cons_succ, i64_w, i32_w]
            rfl
          refine pure_ (i := 25) (N := (some 48)) (v := ?_) (a' := ?_) #[true, false, true, false, true, false, false, true, false, false, false, true, true, false, false, true, true, true, false, false, false, false, true, false, false, true, false, false, false, false] rfl rfl (by kernel_rfl) (fun _ _ _ h => h) (Or.inl ⟨by rfl, ?_⟩) ?_ ?_
          rotate_left
          · intro w'
            go_simp
            with_reducible rfl
          rotate_left
          · simp only [Act.put, List.setIfInBounds_toArray, List.set_cons_zero, List.set_cons_succ, i64_w, i32_w]
            rfl
          refine pure_ (i := 26) (N := (some 49)) (v := ?_) (a' := ?_) #[true, false, true, false, true, false, false, true, false, false, false, true, true, false, false, true, true, true, false, false, false, false, true, false, false, true, true, false, false, false] rfl rfl (by kernel_rfl) (fun _ _ _ h => h) (Or.inl ⟨by rfl, ?_⟩) ?_ ?_
          rotate_left
          · intro w'
            go_simp
            with_reducible rfl
          rotate_left
          · simp only [Act.put, List.setIfInBounds_toArray, List.set_cons_zero, List.set_cons_succ, i64_w, i32_w]
            rfl
          refine take_ (i := 1) (N := (some 24)) (v := ?_) (a' := ?_) #[true, true, true, false, true, false, false, true, false, false, false, true, true, false, false, true, true, true, false, false, false, false, true, false, false, true, true, false, false, false] rfl rfl (by kernel_rfl) (fun _ _ _ h => h) (Or.inl ⟨by rfl, ?_⟩) hHeld ?_ ?_
          rotate_left
          · rintro w' ⟨s5, s6, s7, sy⟩
            go_simp
            with_reducible rfl
          rotate_left
          · simp only [Act.put, List.setIfInBounds_toArray, List.set_cons_zero, List.set_cons_succ, i64_w, i32_w]
            rfl
          refine take_ (i := 13) (N := (some 36)) (v := ?_) (a' := ?_) #[true, true, true, false, true, false, false, true, false, false, false, true, true, true, false, true, true, true, false, false, false, false, true, false, false, true, true, false, false, false] rfl rfl (by kernel_rfl) (fun _ _ _ h => h) (Or.inl ⟨by rfl, ?_⟩) hHeld ?_ ?_
          rotate_left
          · rintro w' ⟨s5, s6, s7, sy⟩
            go_simp
            with_reducible rfl
          rotate_left
          · simp only [Act.put, List.setIfInBounds_toArray, List.set_cons_zero, List.set_cons_succ, i64_w, i32_w]
            rfl
          refine take_ (i := 18) (N := (some 41)) (v := ?_) (a' := ?_) #[true, true, true, false, true, false, false, true, false, false, false, true, true, true, false, true, true, true, true, false, false, false, true, false, false, true, true, false, false, false] rfl rfl (by kernel_rfl) (fun _ _ _ h => h) (Or.inl ⟨by rfl, ?_⟩) hHeld ?_ ?_
          rotate_left
          · rintro w' ⟨s5, s6, s7, sy⟩
            go_simp
            with_reducible rfl
          rotate_left
          · simp only [Act.put, List.setIfInBounds_toArray, List.set_cons_zero, List.set_cons_succ, i64_w, i32_w]
            rfl
          refine take_ (i := 27) (N := (some 50)) (v := ?_) (a' := ?_) #[true, true, true, false, true, false, false, true, false, false, false, true, true, true, false, true, true, true, true, false, false, false, true, false, false, true, true, true, false, false] rfl rfl (by kernel_rfl) (fun _ _ _ h => h) (Or.inl ⟨by rfl, ?_⟩) hHeld ?_ ?_
          rotate_left
          · rintro w' ⟨s5, s6, s7, sy⟩
            go_simp
            with_reducible rfl
          rotate_left
          · simp only [Act.put, List.setIfInBounds_toArray, List.set_cons_zero, List.set_cons_succ, i64_w, i32_w]
            rfl
          refine pure_ (i := 14) (N := (some 37)) (v := ?_) (a' := ?_) #[true, true, true, false, true, false, false, true, false, false, false, true, true, true, true, true, true, true, true, false, false, false, true, false, false, true, true, true, false, false] rfl rfl (by kernel_rfl) (fun _ _ _ h => h) (Or.inl ⟨by rfl, ?_⟩) ?_ ?_
          rotate_left
          · intro w'
            go_simp
            with_reducible rfl
          rotate_left
          · simp only [Act.put, List.setIfInBounds_toArray, List.set_cons_zero, List.set_cons_succ, i64_w, i32_w]
            rfl
          refine pure_ (i := 19) (N := (some 42)) (v := ?_) (a' := ?_) #[true, true, true, false, true, false, false, true, false, false, false, true, true, true, true, true, true, true, true, true, false, false, true, false, false, true, true, true, false, false] rfl rfl (by kernel_rfl) (fun _ _ _ h => h) (Or.inl ⟨by rfl, ?_⟩) ?_ ?_
          rotate_left
          · intro w'
            go_simp
            with_reducible rfl
          rotate_left
          · simp only [Act.put, List.setIfInBounds_toArray, List.set_cons_zero, List.set_cons_succ, i64_w, i32_w]
            rfl
          refine pure_ (i := 20) (N := (some 43)) (v := ?_) (a' := ?_) #[true, true, true, false, true, false, false, true, false, false, false, true, true, true, true, true, true, true, true, true, true, false, true, false, false, true, true, true, false, false] rfl rfl (by kernel_rfl) (fun _ _ _ h => h) (Or.inl ⟨by rfl, ?_⟩) ?_ ?_
          rotate_left
          · intro w'
            go_simp
            with_reducible rfl
          rotate_left
          · simp only [Act.put, List.setIfInBounds_toArray, List.set_cons_zero, List.set_cons_succ, i64_w, i32_w]
            rfl
          refine one_ (i := 3) (N := (some 26)) #[true, true, true, true, true, false, false, true, false, false, false, true, true, true, true, true, true, true, true, true, true, false, true, false, false, true, true, true, false, false] rfl rfl (by kernel_rfl) (by decide) (fun K hK => ?_)
          refine goes_ Try.func28 (by kernel_rfl) rfl #[.int .u32 b4, .int .i64 6] (by rfl) rfl rfl (by (try simp only [List.map_toArray, List.map_cons, List.map_nil]); first | done | rfl) ?_
          with_reducible refine (right6 _ _).mono ?_
          rintro e w' ⟨rfl, rfl⟩
          refine ⟨_, rfl, ?_⟩
          refine hK.out _ _ hHeld (fun hHeld => ?_)
          clear hK K
          refine norm_ (a' := ?_) ?_ ?_
          rotate_left
          · show Act.put _ (some 26) _ = _
            simp only [Act.put, List.setIfInBounds_toArray, List.set_cons_zero, List.set_cons_succ, i64_w, i32_w]
            rfl
          refine one_ (i := 5) (N := (some 28)) #[true, true, true, true, true, true, false, true, false, false, false, true, true, true, true, true, true, true, true, true, true, false, true, false, false, true, true, true, false, false] rfl rfl (by kernel_rfl) (by decide) (fun K hK => ?_)
          refine goes_ Try.func28 (by kernel_rfl) rfl #[.int .u32 b4, .int .i64 11] (by rfl) rfl rfl (by (try simp only [List.map_toArray, List.map_cons, List.map_nil]); first | done | rfl) ?_
          with_reducible refine (right11 _ _).mono ?_
          rintro e w' ⟨rfl, rfl⟩
          refine ⟨_, rfl, ?_⟩
          refine hK.out _ _ hHeld (fun hHeld => ?_)
          clear hK K
          refine norm_ (a' := ?_) ?_ ?_
          rotate_left
          · show Act.put _ (some 28) _ = _
            simp only [Act.put, List.setIfInBounds_toArray, List.set_cons_zero, List.set_cons_succ, i64_w, i32_w]
            rfl
          refine pure_ (i := 6) (N := (some 29)) (v := ?_) (a' := ?_) #[true, true, true, true, true, true, true, true, false, false, false, true, true, true, true, true, true, true, true, true, true, false, true, false, false, true, true, true, false, false] rfl rfl (by kernel_rfl) (fun _ _ _ h => h) (Or.inl ⟨by rfl, ?_⟩) ?_ ?_
          rotate_left
          · intro w'
            go_simp
            with_reducible rfl
          rotate_left
          · simp only [Act.put, List.setIfInBounds_toArray, List.set_cons_zero, List.set_cons_succ, i64_w, i32_w]
            rfl
          refine one_ (i := 8) (N := (some 31)) #[true, true, true, true, true, true, true, true, true, false, false, true, true, true, true, true, true, true, true, true, true, false, true, false, false, true, true, true, false, false] rfl rfl (by kernel_rfl) (by decide) (fun K hK => ?_)
          refine goes_ Try.func28 (by kernel_rfl) rfl #[.int .u32 b4, .int .i64 25] (by rfl) rfl rfl (by (try simp only [List.map_toArray, List.map_cons, List.map_nil]); first | done | rfl) ?_
          with_reducible refine (right25 _ _).mono ?_
          rintro e w' ⟨rfl, rfl⟩
          refine ⟨_, rfl, ?_⟩
          refine hK.out _ _ hHeld (fun hHeld => ?_)
          clear hK K
          refine norm_ (a' := ?_) ?_ ?_
          rotate_left
          · show Act.put _ (some 31) _ = _
            simp only [Act.put, List.setIfInBounds_toArray, List.set_cons_zero, List.set_cons_succ, i64_w, i32_w]
            rfl
          refine pure_ (i := 9) (N := (some 32)) (v := ?_) (a' := ?_) #[true, true, true, true, true, true, true, true, true, true, false, true, true, true, true, true, true, true, true, true, true, false, true, false, false, true, true, true, false, false] rfl rfl (by kernel_rfl) (fun _ _ _ h => h) (Or.inl ⟨by rfl, ?_⟩) ?_ ?_
          rotate_left
          · intro w'
            go_simp
            with_reducible rfl
          rotate_left
          · simp only [Act.put, List.setIfInBounds_toArray, List.set_cons_zero, List.set_cons_succ, i64_w, i32_w]
            rfl
          refine pure_ (i := 10) (N := (some 33)) (v := ?_) (a' := ?_) #[true, true, true, true, true, true, true, true, true, true, true, true, true, true, true, true, true, true, true, true, true, false, true, false, false, true, true, true, false, false] rfl rfl (by kernel_rfl) (fun _ _ _ h => h) (Or.inl ⟨by rfl, ?_⟩) ?_ ?_
          rotate_left
          · intro w'
            go_simp
            with_reducible rfl
          rotate_left
          · simp only [Act.put, List.setIfInBounds_toArray, List.set_cons_zero, List.set_cons_succ, i64_w, i32_w]
            rfl
          refine pure_ (i := 21) (N := (some 44)) (v := ?_) (a' := ?_) #[true, true, true, true, true, true, true, true, true, true, true, true, true, true, true, true, true, true, true, true, true, true, true, false, false, true, true, true, false, false] rfl rfl (by kernel_rfl) (fun _ _ _ h => h) (Or.inl ⟨by rfl, ?_⟩) ?_ ?_
          rotate_left
          · intro w'
            go_simp
            with_reducible rfl
          rotate_left
          · simp only [Act.put, List.setIfInBounds_toArray, List.set_cons_zero, List.set_cons_succ, i64_w, i32_w]
            rfl
          refine one_ (i := 23) (N := (some 46)) #[true, true, true, true, true, true, true, true, true, true, true, true, true, true, true, true, true, true, true, true, true, true, true, true, false, true, true, true, false, false] rfl rfl (by kernel_rfl) (by decide) (fun K hK => ?_)
          refine goes_ Try.func29 (by kernel_rfl) rfl #[.int .i64 (n : Int)] (by rfl) rfl rfl (by (try simp only [List.map_toArray, List.map_cons, List.map_nil]); first | done | rfl) ?_
          with_reducible refine (HCON.out _).mono ?_
          rintro e w4 ⟨rfl, hb⟩
          have f4 := Lib.hid (blk_below (w := w3.drew) f3.out hb)
          have z4 := Lib.hid (blk_below (w := w3.drew) z3.out hb)
          have e4 := Lib.hid (blk_below (w := w3.drew) e3.out hb)
          have h4 := Lib.hid (blk_below (w := w3.drew) h3.out hb)
          have b4' := Lib.hid (below_step (below_drew1 q3.out) hb)
          have r8 := cells8 h4.out
          have c4 := And.intro r8.2.2.2.2.2.1 (And.intro r8.2.2.2.2.2.2.1 (And.intro r8.2.2.2.2.2.2.2 (HCY.out _ e4.out)))
          clear r8 hb
          refine ⟨_, rfl, ?_⟩
          refine hK.out _ _ c4 (fun hHeld => ?_)
          clear hK K
          refine norm_ (a' := ?_) ?_ ?_
          rotate_left
          · show Act.put _ (some 46) _ = _
            simp only [Act.put, List.setIfInBounds_toArray, List.set_cons_zero, List.set_cons_succ, i64_w, i32_w]
            rfl
          refine pure_ (i := 24) (N := (some 47)) (v := ?_) (a' := ?_) #[true, true, true, true, true, true, true, true, true, true, true, true, true, true, true, true, true, true, true, true, true, true, true, true, true, true, true, true, false, false] rfl rfl (by kernel_rfl) (fun _ _ _ h => h) (Or.inl ⟨by rfl, ?_⟩) ?_ ?_
          rotate_left
          · intro w'
            go_simp
            with_reducible rfl
          rotate_left
          · simp only [Act.put, List.setIfInBounds_toArray, List.set_cons_zero, List.set_cons_succ, i64_w, i32_w]
            rfl
          refine pure_ (i := 28) (N := (some 51)) (v := ?_) (a' := ?_) #[true, true, true, true, true, true, true, true, true, true, true, true, true, true, true, true, true, true, true, true, true, true, true, true, true, true, true, true, true, false] rfl rfl (by kernel_rfl) (fun _ _ _ h => h) (Or.inl ⟨by rfl, ?_⟩) ?_ ?_
          rotate_left
          · intro w'
            go_simp
            with_reducible rfl
          rotate_left
          · simp only [Act.put, List.setIfInBounds_toArray, List.set_cons_zero, List.set_cons_succ, i64_w, i32_w]
            rfl
          refine pure_ (i := 29) (N := (some 10)) (v := ?_) (a' := ?_) #[true, true, true, true, true, true, true, true, true, true, true, true, true, true, true, true, true, true, true, true, true, true, true, true, true, true, true, true, true, true] rfl rfl (by kernel_rfl) (fun _ _ _ h => h) (Or.inl ⟨by rfl, ?_⟩) ?_ ?_
          rotate_left
          · intro w'
            go_simp
            with_reducible rfl
          rotate_left
          · simp only [Act.put, List.setIfInBounds_toArray, List.set_cons_zero, List.set_cons_succ, i64_w, i32_w]
            rfl
          refine done_ (by kernel_rfl) ?_
          refine hK2 _ _ (Met.intro (hJ _ _ ?_))
          repeat apply Exists.intro
          refine ⟨?_, rfl⟩
          exact ⟨rfl, f4, z4, e4, h4, b4'⟩
        case rest =>
          obtain ⟨rfl, f4, z4, e4, h4, b4'⟩ := hcut
          clear f3 z3 e3 h3 q3
          obtain ⟨one, hv1⟩ : ∃ v, oneV b7 b4 b5 b6 kk y = v := ⟨_, rfl⟩
          have HV1 := Lib.hid hv1
          rw [hv1]
          clear hv1
          go_wp2_with fail
          generalize wc = w5 at f4 z4 e4 h4 b4' ⊢
          go_cut [11] (fun v11 wx => v11 = .int .u32 (twoV b0 b1 b2) ∧ Hid (wx.heap[g]? = some (.cells #[.int .u32 a0, .int .u32 a1, .int .u32 a2, .int .u32 a3, .int .u32 a4, .int .u32 a5, .int .u32 a6, .int .u32 a7] 33 (0, 0))) ∧ Hid (wx.heap[g + 1]? = some (.cells #[.int .u32 0, .int .u32 0, .int .u32 0, .int .u32 0, .int .u32 0, .int .u32 0, .int .u32 0, .int .u32 0] 33 (0, 0))) ∧ Hid (wx.heap[g5]? = some (.cells WL 64 (0, 0))) ∧ Hid (wx.heap[g6]? = some (.cells #[.int .u32 b0, .int .u32 b1, .int .u32 b2, .int .u32 b3, .int .u32 b4, .int .u32 b5, .int .u32 b6, .int .u32 b7] 33 (0, 0))) ∧ Hid (Below w.heap.size w wx))
          case first J K2 hJ hK2 =>
            have r8 := cells8 h4.out
            have c5 : w5.drew.cell? ⟨g6, 1, none⟩ = some (.int .u32 b1) ∧ w5.drew.cell? ⟨g6, 2, none⟩ = some (.int .u32 b2) := And.intro r8.2.1 r8.2.2.1
            refine start_ (n := 25) (S := fun w' => w'.cell? ⟨g6, 1, none⟩ = some (.int .u32 b1) ∧ w'.cell? ⟨g6, 2, none⟩ = some (.int .u32 b2)) (ds := []) #[false, false, false, false, false, false, false, false, false, false, false, false, false, false, false, false, false, false, false, false, false, false, false, false, false] (by kernel_rfl) rfl rfl c5 (fun hHeld => ?_)
            refine pure_ (i := 0) (N := (some 52)) (v := ?_) (a' := ?_) #[true, false, false, false, false, false, false, false, false, false, false, false, false, false, false, false, false, false, false, false, false, false, false, false, false] rfl rfl (by kernel_rfl) (fun _ _ _ h => h) (Or.inl ⟨by rfl, ?_⟩) ?_ ?_
            rotate_left
            · intro w'
              go_simp
              with_reducible rfl
            rotate_left
            · simp only [Act.put, List.setIfInBounds_toArray, List.set_cons_zero, List.set_cons_succ]
              rfl
            refine pure_ (i := 2) (N := (some 54)) (v := ?_) (a' := ?_) #[true, false, true, false, false, false, false, false, false, false, false, false, false, false, false, false, false, false, false, false, false, false, false, false, false] rfl rfl (by kernel_rfl) (fun _ _ _ h => h) (Or.inl ⟨by rfl, ?_⟩) ?_ ?_
            rotate_left
            · intro w'
              go_simp
              with_reducible rfl
            rotate_left
            · simp only [Act.put, List.setIfInBounds_toArray, List.set_cons_zero, List.set_cons_succ]
              rfl
            refine pure_ (i := 5) (N := (some 57)) (v := ?_) (a' := ?_) #[true, false, true, false, false, true, false, false, false, false, false, false, false, false, false, false, false, false, false, false, false, false, false, false, false] rfl rfl (by kernel_rfl) (fun _ _ _ h => h) (Or.inl ⟨by rfl, ?_⟩) ?_ ?_
            rotate_left
            · intro w'
              go_simp
              with_reducible rfl
            rotate_left
            · simp only [Act.put, List.setIfInBounds_toArray, List.set_cons_zero, List.set_cons_succ]
              rfl
            refine pure_ (i := 8) (N := (some 60)) (v := ?_) (a' := ?_) #[true, false, true, false, false, true, false, false, true, false, false, false, false, false, false, false, false, false, false, false, false, false, false, false, false] rfl rfl (by kernel_rfl) (fun _ _ _ h => h) (Or.inl ⟨by rfl, ?_⟩) ?_ ?_
            rotate_left
            · intro w'
              go_simp
              with_reducible rfl
            rotate_left
            · simp only [Act.put, List.setIfInBounds_toArray, List.set_cons_zero, List.set_cons_succ]
              rfl
            refine pure_ (i := 9) (N := (some 61)) (v := ?_) (a' := ?_) #[true, false, true, false, false, true, false, false, true, true, false, false, false, false, false, false, false, false, false, false, false, false, false, false, false] rfl rfl (by kernel_rfl) (fun _ _ _ h => h) (Or.inl ⟨by rfl, ?_⟩) ?_ ?_
            rotate_left
            · intro w'
              go_simp
              with_reducible rfl
            rotate_left
            · simp only [Act.put, List.setIfInBounds_toArray, List.set_cons_zero, List.set_cons_succ]
              rfl
            refine pure_ (i := 12) (N := (some 64)) (v := ?_) (a' := ?_) #[true, false, true, false, false, true, false, false, true, true, false, false, true, false, false, false, false, false, false, false, false, false, false, false, false] rfl rfl (by kernel_rfl) (fun _ _ _ h => h) (Or.inl ⟨by rfl, ?_⟩) ?_ ?_
            rotate_left
            · intro w'
              go_simp
              with_reducible rfl
            rotate_left
            · simp only [Act.put, List.setIfInBounds_toArray, List.set_cons_zero, List.set_cons_succ]
              rfl
            refine pure_ (i := 13) (N := (some 65)) (v := ?_) (a' := ?_) #[true, false, true, false, false, true, false, false, true, true, false, false, true, true, false, false, false, false, false, false, false, false, false, false, false] rfl rfl (by kernel_rfl) (fun _ _ _ h => h) (Or.inl ⟨by rfl, ?_⟩) ?_ ?_
            rotate_left
            · intro w'
              go_simp
              with_reducible rfl
            rotate_left
            · simp only [Act.put, List.setIfInBounds_toArray, List.set_cons_zero, List.set_cons_succ]
              rfl
            refine pure_ (i := 17) (N := (some 69)) (v := ?_) (a' := ?_) #[true, false, true, false, false, true, false, false, true, true, false, false, true, true, false, false, false, true, false, false, false, false, false, false, false] rfl rfl (by kernel_rfl) (fun _ _ _ h => h) (Or.inl ⟨by rfl, ?_⟩) ?_ ?_
            rotate_left
            · intro w'
              go_simp
              with_reducible rfl
            rotate_left
            · simp only [Act.put, List.setIfInBounds_toArray, List.set_cons_zero, List.set_cons_succ]
              rfl
            refine pure_ (i := 19) (N := (some 71)) (v := ?_) (a' := ?_) #[true, false, true, false, false, true, false, false, true, true, false, false, true, true, false, false, false, true, false, true, false, false, false, false, false] rfl rfl (by kernel_rfl) (fun _ _ _ h => h) (Or.inl ⟨by rfl, ?_⟩) ?_ ?_
            rotate_left
            · intro w'
              go_simp
              with_reducible rfl
            rotate_left
            · simp only [Act.put, List.setIfInBounds_toArray, List.set_cons_zero, List.set_cons_succ]
              rfl
            refine take_ (i := 10) (N := (some 62)) (v := ?_) (a' := ?_) #[true, false, true, false, false, true, false, false, true, true, true, false, true, true, false, false, false, true, false, true, false, false, false, false, false] rfl rfl (by kernel_rfl) (fun _ _ _ h => h) (Or.inl ⟨by rfl, ?_⟩) hHeld ?_ ?_
            rotate_left
            · rintro w' ⟨s1, s2⟩
              go_simp
              with_reducible rfl
            rotate_left
            · simp only [Act.put, List.setIfInBounds_toArray, List.set_cons_zero, List.set_cons_succ]
              rfl
            refine take_ (i := 14) (N := (some 66)) (v := ?_) (a' := ?_) #[true, false, true, false, false, true, false, false, true, true, true, false, true, true, true, false, false, true, false, true, false, false, false, false, false] rfl rfl (by kernel_rfl) (fun _ _ _ h => h) (Or.inl ⟨by rfl, ?_⟩) hHeld ?_ ?_
            rotate_left
            · rintro w' ⟨s1, s2⟩
              go_simp
              with_reducible rfl
            rotate_left
            · simp only [Act.put, List.setIfInBounds_toArray, List.set_cons_zero, List.set_cons_succ]
              rfl
            refine take_ (i := 18) (N := (some 70)) (v := ?_) (a' := ?_) #[true, false, true, false, false, true, false, false, true, true, true, false, true, true, true, false, false, true, true, true, false, false, false, false, false] rfl rfl (by kernel_rfl) (fun _ _ _ h => h) (Or.inl ⟨by rfl, ?_⟩) hHeld ?_ ?_
            rotate_left
            · rintro w' ⟨s1, s2⟩
              go_simp
              with_reducible rfl
            rotate_left
            · simp only [Act.put, List.setIfInBounds_toArray, List.set_cons_zero, List.set_cons_succ]
              rfl
            refine take_ (i := 20) (N := (some 72)) (v := ?_) (a' := ?_) #[true, false, true, false, false, true, false, false, true, true, true, false, true, true, true, false, false, true, true, true, true, false, false, false, false] rfl rfl (by kernel_rfl) (fun _ _ _ h => h) (Or.inl ⟨by rfl, ?_⟩) hHeld ?_ ?_
            rotate_left
            · rintro w' ⟨s1, s2⟩
              go_simp
              with_reducible rfl
            rotate_left
            · simp only [Act.put, List.setIfInBounds_toArray, List.set_cons_zero, List.set_cons_succ]
              rfl
            refine pure_ (i := 11) (N := (some 63)) (v := ?_) (a' := ?_) #[true, false, true, false, false, true, false, false, true, true, true, true, true, true, true, false, false, true, true, true, true, false, false, false, false] rfl rfl (by kernel_rfl) (fun _ _ _ h => h) (Or.inl ⟨by rfl, ?_⟩) ?_ ?_
            rotate_left
            · intro w'
              go_simp
              with_reducible rfl
            rotate_left
            · simp only [Act.put, List.setIfInBounds_toArray, List.set_cons_zero, List.set_cons_succ]
              rfl
            refine pure_ (i := 15) (N := (some 67)) (v := ?_) (a' := ?_) #[true, false, true, false, false, true, false, false, true, true, true, true, true, true, true, true, false, true, true, true, true, false, false, false, false] rfl rfl (by kernel_rfl) (fun _ _ _ h => h) (Or.inl ⟨by rfl, ?_⟩) ?_ ?_
            rotate_left
            · intro w'
              go_simp
              with_reducible rfl
            rotate_left
            · simp only [Act.put, List.setIfInBounds_toArray, List.set_cons_zero, List.set_cons_succ]
              rfl
            refine pure_ (i := 16) (N := (some 68)) (v := ?_) (a' := ?_) #[true, false, true, false, false, true, false, false, true, true, true, true, true, true, true, true, true, true, true, true, true, false, false, false, false] rfl rfl (by kernel_rfl) (fun _ _ _ h => h) (Or.inl ⟨by rfl, ?_⟩) ?_ ?_
            rotate_left
            · intro w'
              go_simp
              with_reducible rfl
            rotate_left
            · simp only [Act.put, List.setIfInBounds_toArray, List.set_cons_zero, List.set_cons_succ]
              rfl
            refine pure_ (i := 21) (N := (some 73)) (v := ?_) (a' := ?_) #[true, false, true, false, false, true, false, false, true, true, true, true, true, true, true, true, true, true, true, true, true, true, false, false, false] rfl rfl (by kernel_rfl) (fun _ _ _ h => h) (Or.inl ⟨by rfl, ?_⟩) ?_ ?_
            rotate_left
            · intro w'
              go_simp
              with_reducible rfl
            rotate_left
            · simp only [Act.put, List.setIfInBounds_toArray, List.set_cons_zero, List.set_cons_succ]
              rfl
            refine pure_ (i := 22) (N := (some 74)) (v := ?_) (a' := ?_) #[true, false, true, false, false, true, false, false, true, true, true, true, true, true, true, true, true, true, true, true, true, true, true, false, false] rfl rfl (by kernel_rfl) (fun _ _ _ h => h) (Or.inl ⟨by rfl, ?_⟩) ?_ ?_
            rotate_left
            · intro w'
              go_simp
              with_reducible rfl
            rotate_left
            · simp only [Act.put, List.setIfInBounds_toArray, List.set_cons_zero, List.set_cons_succ]
              rfl
            refine one_ (i := 1) (N := (some 53)) #[true, true, true, false, false, true, false, false, true, true, true, true, true, true, true, true, true, true, true, true, true, true, true, false, false] rfl rfl (by kernel_rfl) (by decide) (fun K hK => ?_)
            refine goes_ Try.func28 (by kernel_rfl) rfl #[.int .u32 b0, .int .i64 2] (by rfl) rfl rfl (by (try simp only [List.map_toArray, List.map_cons, List.map_nil]); first | done | rfl) ?_
            with_reducible refine (right2 _ _).mono ?_
            rintro e w' ⟨rfl, rfl⟩
            refine ⟨_, rfl, ?_⟩
            refine hK.out _ _ hHeld (fun hHeld => ?_)
            clear hK K
            refine norm_ (a' := ?_) ?_ ?_
            rotate_left
            · show Act.put _ (some 53) _ = _
              simp only [Act.put, List.setIfInBounds_toArray, List.set_cons_zero, List.set_cons_succ]
              rfl
            refine one_ (i := 3) (N := (some 55)) #[true, true, true, true, false, true, false, false, true, true, true, true, true, true, true, true, true, true, true, true, true, true, true, false, false] rfl rfl (by kernel_rfl) (by decide) (fun K hK => ?_)
            refine goes_ Try.func28 (by kernel_rfl) rfl #[.int .u32 b0, .int .i64 13] (by rfl) rfl rfl (by (try simp only [List.map_toArray, List.map_cons, List.map_nil]); first | done | rfl) ?_
            with_reducible refine (right13 _ _).mono ?_
            rintro e w' ⟨rfl, rfl⟩
            refine ⟨_, rfl, ?_⟩
            refine hK.out _ _ hHeld (fun hHeld => ?_)
            clear hK K
            refine norm_ (a' := ?_) ?_ ?_
            rotate_left
            · show Act.put _ (some 55) _ = _
              simp only [Act.put, List.setIfInBounds_toArray, List.set_cons_zero, List.set_cons_succ]
              rfl
            refine pure_ (i := 4) (N := (some 56)) (v := ?_) (a' := ?_) #[true, true, true, true, true, true, false, false, true, true, true, true, true, true, true, true, true, true, true, true, true, true, true, false, false] rfl rfl (by kernel_rfl) (fun _ _ _ h => h) (Or.inl ⟨by rfl, ?_⟩) ?_ ?_
            rotate_left
            · intro w'
              go_simp
              with_reducible rfl
            rotate_left
            · simp only [Act.put, List.setIfInBounds_toArray, List.set_cons_zero, List.set_cons_succ]
              rfl
            refine one_ (i := 6) (N := (some 58)) #[true, true, true, true, true, true, true, false, true, true, true, true, true, true, true, true, true, true, true, true, true, true, true, false, false] rfl rfl (by kernel_rfl) (by decide) (fun K hK => ?_)
            refine goes_ Try.func28 (by kernel_rfl) rfl #[.int .u32 b0, .int .i64 22] (by rfl) rfl rfl (by (try simp only [List.map_toArray, List.map_cons, List.map_nil]); first | done | rfl) ?_
            with_reducible refine (right22 _ _).mono ?_
            rintro e w' ⟨rfl, rfl⟩
            refine ⟨_, rfl, ?_⟩
            refine hK.out _ _ hHeld (fun hHeld => ?_)
            clear hK K
            refine norm_ (a' := ?_) ?_ ?_
            rotate_left
            · show Act.put _ (some 58) _ = _
              simp only [Act.put, List.setIfInBounds_toArray, List.set_cons_zero, List.set_cons_succ]
              rfl
            refine pure_ (i := 7) (N := (some 59)) (v := ?_) (a' := ?_) #[true, true, true, true, true, true, true, true, true, true, true, true, true, true, true, true, true, true, true, true, true, true, true, false, false] rfl rfl (by kernel_rfl) (fun _ _ _ h => h) (Or.inl ⟨by rfl, ?_⟩) ?_ ?_
            rotate_left
            · intro w'
              go_simp
              with_reducible rfl
            rotate_left
            · simp only [Act.put, List.setIfInBounds_toArray, List.set_cons_zero, List.set_cons_succ]
              rfl
            refine pure_ (i := 23) (N := (some 75)) (v := ?_) (a' := ?_) #[true, true, true, true, true, true, true, true, true, true, true, true, true, true, true, true, true, true, true, true, true, true, true, true, false] rfl rfl (by kernel_rfl) (fun _ _ _ h => h) (Or.inl ⟨by rfl, ?_⟩) ?_ ?_
            rotate_left
            · intro w'
              go_simp
              with_reducible rfl
            rotate_left
            · simp only [Act.put, List.setIfInBounds_toArray, List.set_cons_zero, List.set_cons_succ]
              rfl
            refine pure_ (i := 24) (N := (some 11)) (v := ?_) (a' := ?_) #[true, true, true, true, true, true, true, true, true, true, true, true, true, true, true, true, true, true, true, true, true, true, true, true, true] rfl rfl (by kernel_rfl) (fun _ _ _ h => h) (Or.inl ⟨by rfl, ?_⟩) ?_ ?_
            rotate_left
            · intro w'
              go_simp
              with_reducible rfl
            rotate_left
            · simp only [Act.put, List.setIfInBounds_toArray, List.set_cons_zero, List.set_cons_succ]
              rfl
            refine done_ (by kernel_rfl) ?_
            clear c5 r8
            refine hK2 _ _ (Met.intro (hJ _ _ ?_))
            repeat apply Exists.intro
            refine ⟨?_, rfl⟩
            exact ⟨rfl, f4, z4, e4, h4, Lib.hid (below_drew1 b4'.out)⟩
          case rest =>
            obtain ⟨rfl, f6, z6, e6, h6, b6'⟩ := hcut
            clear f4 z4 e4 h4 b4'
            obtain ⟨two, hv2⟩ : ∃ v, twoV b0 b1 b2 = v := ⟨_, rfl⟩
            have HV2 := Lib.hid hv2
            rw [hv2]
            clear hv2
            generalize wc = w7 at f6 z6 e6 h6 b6' ⊢
            obtain ⟨k0, k1, k2, k3, k4, k5, k6, k7⟩ := cells8 h6.out
            go_upto_region 8 with (fail)
            go_step
            iterate 51 go_step
            refine wpList_build_to rfl 33 _ rfl #[.int .u32 (IntKind.u32.wrap (one + two)), .int .u32 b0, .int .u32 b1, .int .u32 b2, .int .u32 (IntKind.u32.wrap (b3 + one)), .int .u32 b4, .int .u32 b5, .int .u32 b6] (by kernel_rfl) ?_
            refine wpList_store_row rfl 33 (.tmp 6) (.tmp 93) rfl g6 #[.int .u32 (IntKind.u32.wrap (one + two)), .int .u32 b0, .int .u32 b1, .int .u32 b2, .int .u32 (IntKind.u32.wrap (b3 + one)), .int .u32 b4, .int .u32 b5, .int .u32 b6] ?_ ?_ 33 #[.int .u32 b0, .int .u32 b1, .int .u32 b2, .int .u32 b3, .int .u32 b4, .int .u32 b5, .int .u32 b6, .int .u32 b7] h6.out hi33 rfl (by simp [Value.oneCell']) ?_
            · rfl
            · rfl
            have f8 := Lib.hid ((setRow_other w7 g6 _ #[.int .u32 (IntKind.u32.wrap (one + two)), .int .u32 b0, .int .u32 b1, .int .u32 b2, .int .u32 (IntKind.u32.wrap (b3 + one)), .int .u32 b4, .int .u32 b5, .int .u32 b6] (show g ≠ g6 by omega)).trans f6.out)
            have z8 := Lib.hid ((setRow_other w7 g6 _ #[.int .u32 (IntKind.u32.wrap (one + two)), .int .u32 b0, .int .u32 b1, .int .u32 b2, .int .u32 (IntKind.u32.wrap (b3 + one)), .int .u32 b4, .int .u32 b5, .int .u32 b6] (show g + 1 ≠ g6 by omega)).trans z6.out)
            have e8 := Lib.hid ((setRow_other w7 g6 _ #[.int .u32 (IntKind.u32.wrap (one + two)), .int .u32 b0, .int .u32 b1, .int .u32 b2, .int .u32 (IntKind.u32.wrap (b3 + one)), .int .u32 b4, .int .u32 b5, .int .u32 b6] (show g5 ≠ g6 by omega)).trans e6.out)
            have h8 := Lib.hid (setRow_heap w7 g6 _ #[.int .u32 (IntKind.u32.wrap (one + two)), .int .u32 b0, .int .u32 b1, .int .u32 b2, .int .u32 (IntKind.u32.wrap (b3 + one)), .int .u32 b4, .int .u32 b5, .int .u32 b6] 33 (0, 0) h6.out)
            have b8' := Lib.hid (below_setRow b6'.out q6 #[.int .u32 (IntKind.u32.wrap (one + two)), .int .u32 b0, .int .u32 b1, .int .u32 b2, .int .u32 (IntKind.u32.wrap (b3 + one)), .int .u32 b4, .int .u32 b5, .int .u32 b6])
            generalize w7.setRow _ _ = w8 at f8 z8 e8 h8 b8' ⊢
            clear f6 z6 e6 h6 b6' k0 k1 k2 k3 k4 k5 k6 k7
            have HR2 : Hid (RS s (n + 1) (a0, a1, a2, a3, a4, a5, a6, a7) = (IntKind.u32.wrap (one + two), b0, b1, b2, IntKind.u32.wrap (b3 + one), b4, b5, b6)) := Lib.hid (by rw [RS, hR.out, HKK.out, HY.out]; simp only [rnd, HV1.out, HV2.out])
            generalize IntKind.u32.wrap (one + two) = d0 at h8 HR2
            generalize IntKind.u32.wrap (b3 + one) = d4 at h8 HR2
            go_wp2_with fail
            go_roundw
            case rel => exact ⟨n + 1, d0, b0, b1, b2, d4, b4, b5, b6, by omega, by go_num, HR2, f8, z8, e8, h8, b8'⟩
            case measure => simp [intOf]; omega
      · have hlt : ¬ (n : Int) < 64 := by omega
        obtain rfl : n = 64 := by omega
        have HT : Hid (ADD [a0, a1, a2, a3, a4, a5, a6, a7] [b0, b1, b2, b3, b4, b5, b6, b7] 8 = LL) := Lib.hid (by rw [← HLL.out, TL, hR.out]; rfl)
        clear hR
        have f1 : Hid (wr.heap[g]? = some (.cells (row (ADD [a0, a1, a2, a3, a4, a5, a6, a7] [b0, b1, b2, b3, b4, b5, b6, b7] 0)) 33 (0, 0))) := f
        have h1 : Hid (wr.heap[g6]? = some (.cells (row [b0, b1, b2, b3, b4, b5, b6, b7]) 33 (0, 0))) := h
        obtain ⟨BB, hBB⟩ : ∃ L, [b0, b1, b2, b3, b4, b5, b6, b7] = L := ⟨_, rfl⟩
        obtain ⟨AA, hAA⟩ : ∃ L, [a0, a1, a2, a3, a4, a5, a6, a7] = L := ⟨_, rfl⟩
        have lB : BB.length = 8 := by rw [← hBB]; rfl
        have lA : AA.length = 8 := by rw [← hAA]; rfl
        rw [hAA, hBB] at HT f1
        rw [hBB] at h1
        clear f h hBB hAA e
        go_wp2_with fail
        go_loopw [95] (fun v95 wx => ∃ i : Nat, i ≤ 8 ∧ v95 = .int .i64 i ∧ Hid (wx.heap[g]? = some (.cells (row (ADD AA BB i)) 33 (0, 0))) ∧ Hid (wx.heap[g6]? = some (.cells (row BB) 33 (0, 0))) ∧ Hid (wx.heap[g + 1]? = some (.cells #[.int .u32 0, .int .u32 0, .int .u32 0, .int .u32 0, .int .u32 0, .int .u32 0, .int .u32 0, .int .u32 0] 33 (0, 0))) ∧ Hid (Below w.heap.size w wx)) (fun v95 _ => 8 - (intOf v95).toNat)
        case atStart => exact ⟨0, by omega, rfl, f1, h1, z, b⟩
        case round =>
          clear f1 h1 z b
          obtain ⟨i, hi, rfl, f1, h1, z, b⟩ := hrel
          by_cases c8 : i < 8
          · have hlt8 : (i : Int) < 8 := by omega
            have hi0 : (0 : Int) ≤ (i : Int) := by omega
            have ka := row_get f1.out i (by rw [ADD_len]; omega)
            have kb := row_get h1.out i (by omega)
            have kf := row_fr f1.out i
            have ng : g6 ≠ g := by omega
            have nz : g + 1 ≠ g := by omega
            have f2 : Hid ((wr.setCell ⟨g, i, none⟩ (.int .u32 (IntKind.u32.wrap ((ADD AA BB i).getD i 0 + BB.getD i 0)))).drew.heap[g]? = some (.cells (row (ADD AA BB (i + 1))) 33 (0, 0))) := Lib.hid (row_put f1.out i _)
            have h2 : Hid ((wr.setCell ⟨g, i, none⟩ (.int .u32 (IntKind.u32.wrap ((ADD AA BB i).getD i 0 + BB.getD i 0)))).drew.heap[g6]? = some (.cells (row BB) 33 (0, 0))) := Lib.hid (blk_far h1.out (p := ⟨g, i, none⟩) ng _)
            have z2 : Hid ((wr.setCell ⟨g, i, none⟩ (.int .u32 (IntKind.u32.wrap ((ADD AA BB i).getD i 0 + BB.getD i 0)))).drew.heap[g + 1]? = some (.cells #[.int .u32 0, .int .u32 0, .int .u32 0, .int .u32 0, .int .u32 0, .int .u32 0, .int .u32 0, .int .u32 0] 33 (0, 0))) := Lib.hid (blk_far z.out (p := ⟨g, i, none⟩) nz _)
            have b2' : Hid (Below w.heap.size w (wr.setCell ⟨g, i, none⟩ (.int .u32 (IntKind.u32.wrap ((ADD AA BB i).getD i 0 + BB.getD i 0)))).drew) := Lib.hid (below_drew1 (below_set b.out hg0))
            clear f1 h1 z b
            generalize (ADD AA BB i).getD i 0 = x at ka f2 h2 z2 b2'
            generalize BB.getD i 0 = y at kb f2 h2 z2 b2'
            go_wp2_with fail
            go_region
            go_wp2
            go_roundw
            case rel => exact ⟨i + 1, by omega, by go_num, f2, h2, z2, b2'⟩
            case measure => simp [intOf]; omega
          · have hlt8 : ¬ (i : Int) < 8 := by omega
            obtain rfl : i = 8 := by omega
            rw [HT.out] at f1
            have hL8 : LL.length = 8 := by rw [← HT.out, ADD_len]; exact lA
            have hszL : (row LL).size = 8 := by rw [row, List.size_toArray, List.length_map, hL8]
            have hi8 : (Try.prog.info? 33).map (·.size) = some 8 := by kernel_rfl
            go_upto_region 15 with (fail)
            go_step
            refine wpList_load_row rfl 33 _ rfl g rfl 33 _ _ _ f1.out Try.underlying33 rfl (by rw [hszL]; exact hi8) ?_
            refine wpList_store_row rfl 33 _ _ rfl (g + 1) (row LL) rfl rfl 33 _ z.out (by rw [hszL]; exact hi8) (by rw [hszL]; rfl) (row_one _) ?_
            have z3 := Lib.hid (setRow_heap wr (g + 1) _ (row LL) 33 (0, 0) z.out)
            have b3' : Hid (Below w.heap.size w (wr.setRow (g + 1) (row LL))) := Lib.hid (below_row b.out hg1)
            clear f1 h1 z b
            generalize wr.setRow (g + 1) _ = w9 at z3 b3' ⊢
            go_wp2
            refine bodyPost_ret (results_cell_row rfl _ _ (g + 1) 33 (row LL) (0, 0) _ rfl z3.out Try.underlying33 rfl (by rw [hszL]; exact hi8)) rfl ?_
            exact ⟨rfl, by rw [← hg]; exact b3'.out⟩
end Go.Proofs.Ytndfpidilodmgaa.Hand
