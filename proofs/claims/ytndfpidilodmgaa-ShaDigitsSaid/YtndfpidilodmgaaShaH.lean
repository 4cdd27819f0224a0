/- What Hex of package sha returns. -/
import Derived.Test.YtndfpidilodmgaaShaD
set_option linter.unusedSimpArgs false
set_option linter.unusedVariables false
namespace Go.Proofs.Ytndfpidilodmgaa.Hand
open Go.RowKit Go.Proofs.YtndfpidilodmgaaW.PrintWords Go.Proofs.YtndfpidilodmgaaW.PrintLast
def DG : ByteArray := ⟨#[48, 49, 50, 51, 52, 53, 54, 55, 56, 57, 97, 98, 99, 100, 101, 102]⟩
theorem idx (i : Int) (h0 : 0 ≤ i) (h1 : i < 16) (w : World) : (Instr.index 9 (.string ⟨#[48, 49, 50, 51, 52, 53, 54, 55, 56, 57, 97, 98, 99, 100, 101, 102]⟩) (.int .u8 i)).run Try.prog w = .ok (.int .u8 (bt DG i)) w := by
  have hs : ((DG.size : Nat) : Int) = 16 := rfl
  have hb := bt_at DG i
  show (Instr.index 9 (.string DG) (.int .u8 i)).run Try.prog w = _
  generalize DG = D at hs hb ⊢
  go_simp
def hx2 (c : Int) : List Int := [bt DG (c / 16), bt DG (c % 16)]
def hexL (L : List Int) : Nat → List Int
  | 0 => []
  | i + 1 => hexL L i ++ hx2 (L.getD i 0)
theorem hexL_len (L : List Int) : ∀ i, (hexL L i).length = 2 * i
  | 0 => rfl
  | i + 1 => by rw [hexL, List.length_append, hexL_len L i]; rfl
theorem and15 : ∀ c : Fin 256, bits .and .u8 (c.val : Int) 15 = (c.val : Int) % 16 := by decide +kernel
theorem run_index_row (cs : Array Value) (n : Nat) (v : Value) (hn : n < 32) (hv : cs[n]? = some v) (w : World) : (Instr.index 27 (.agg cs) (.int .i64 (n : Int))).run Try.prog w = .ok v w := by
  have h1 : (0 : Int) ≤ (n : Int) ∧ (n : Int) < ((32 : Nat) : Int) := by omega
  have h5 : (Try.prog.info? 5).map (·.size) = some 1 := by kernel_rfl
  have hsz : (sizeOf 5).run Try.prog w = .ok 1 w := by kernel_rfl
  have hag : (isAgg 5).run Try.prog w = .ok false w := by kernel_rfl
  have hp : (part 5 cs n).run Try.prog w = .ok v w := by
    unfold part
    simp only [Sem.run_bind, hag, Result.andThen_ok]
    simp [hv, go_sem]
  simp only [Instr.index, Sem.run_bind, run_underlying Try.underlying27, asIntOf, Result.andThen_ok, Sem.run_pure]
  rw [if_pos h1]
  simp only [Sem.run_bind, hsz, Result.andThen_ok, Int.toNat_natCast, Nat.mul_one]
  exact hp
set_option maxRecDepth 100000 in
set_option maxHeartbeats 1600000 in
theorem hex_walk (M : List Int) (hM : M.length = 32) (hb : ∀ c ∈ M, 0 ≤ c ∧ c < 256) (w : World) : Calls Try.prog 16 #[.agg (rowb M)] w fun e w' => e = .returned (.string (strOfNums (hexL M 32))) ∧ Below w.heap.size w w' := by
  have hsz : (rowb M).size = 32 := by rw [rowb, List.size_toArray, List.length_map, hM]
  have hi32 : (Try.prog.info? 27).map (·.size) = some 32 := by kernel_rfl
  obtain ⟨OUT, hOUT⟩ : ∃ L, strOfNums (hexL M 32) = L := ⟨_, rfl⟩
  rw [hOUT]
  have HOUT := Lib.hid hOUT
  clear hOUT
  have HIX : Hid (∀ i, i < 32 → (rowb M)[i]? = some (.int .u8 (M.getD i 0))) := Lib.hid (fun i hi => by
    rw [List.getD_eq_getElem?_getD, List.getElem?_eq_getElem (by omega)]
    simp only [rowb, List.getElem?_toArray, List.getElem?_map, List.getElem?_eq_getElem (show i < M.length by omega), Option.map_some, Option.getD_some])
  have HB : Hid (∀ i, i < 32 → 0 ≤ M.getD i 0 ∧ M.getD i 0 < 256) := Lib.hid (fun i hi => by
    rw [List.getD_eq_getElem?_getD, List.getElem?_eq_getElem (by omega), Option.getD_some]
    exact hb _ (List.getElem_mem _))
  have F1 := Lib.hid (below_alloc (Below.refl w.heap.size w) (.cells (rowb M) 27))
  have S1 := Lib.hid (blk_new w (.cells (rowb M) 27))
  obtain ⟨RB, hRB⟩ : ∃ R, rowb M = R := ⟨_, rfl⟩
  rw [hRB] at HIX F1 S1 hsz ⊢
  clear hRB hb
  obtain ⟨ti, hti, ht1, ht2, ht3⟩ : ∃ i, Try.prog.info? 5 = some i ∧ i.zero = some (.int .u8 0) ∧ i.size = 1 ∧ i.bytes = 1 := by
    have h5 : (Try.prog.info? 5).map (fun i => (i.zero, i.size, i.bytes)) = some (some (.int .u8 0), 1, 1) := by kernel_rfl
    cases hh : Try.prog.info? 5 with
    | none => rw [hh] at h5; cases h5
    | some i => rw [hh] at h5; injection h5 with h5; injection h5 with e1 h5; injection h5 with e2 e3; exact ⟨i, rfl, e1, e2, e3⟩
  go_enter Try.func16, Try.ntmps16
  go_upto_region 2 with (fail)
  go_step
  generalize w.alloc _ = w1 at F1 S1 ⊢
  refine wpList_load_row rfl 27 _ rfl w.heap.size rfl 27 _ _ _ S1.out Try.underlying27 rfl (by rw [hsz]; exact hi32) ?_
  clear S1
  go_wp2_with fail
  go_loopw [7, 3] (fun v7 v3 wr => ∃ n : Nat, n ≤ 32 ∧ v7 = .int .i64 n ∧ Hid (wr.ownsRow w.heap.size 5 1 v3 (hexL M n).length (nums .u8 (hexL M n))) ∧ Hid (Below w.heap.size w wr)) (fun v7 _ _ => 32 - (intOf v7).toNat)
  case atStart => exact ⟨0, by omega, rfl, Lib.hid (World.ownsRow_nil _ _ _ _), F1⟩
  case round =>
    clear F1
    obtain ⟨n, hn, rfl, O1, F1⟩ := hrel
    by_cases h : n < 32
    · have hlt : (n : Int) < 32 := by omega
      have hn0 : (0 : Int) ≤ (n : Int) := by omega
      have hix := fun w => run_index_row RB n _ h (HIX.out n h) w
      have hb := HB.out n h
      have HH : Hid (hexL M (n + 1) = hexL M n ++ hx2 (M.getD n 0)) := Lib.hid rfl
      obtain ⟨c, hc⟩ : ∃ c, M.getD n 0 = c := ⟨_, rfl⟩
      rw [hc] at hix hb HH
      have c1 : 0 ≤ c := hb.1
      have c2 : c < 256 := hb.2
      have hand : bits .and .u8 c 15 = c % 16 := by
        have := and15 ⟨c.toNat, by omega⟩
        rwa [show ((⟨c.toNat, by omega⟩ : Fin 256).val : Int) = c from Int.toNat_of_nonneg c1] at this
      have i1 := fun w => idx (c / 16) (by omega) (by omega) w
      have i2 := fun w => idx (c % 16) (by omega) (by omega) w
      clear HIX HB hb
      go_upto_region 5 with (fail)
      obtain ⟨b, hbv⟩ : ∃ b, u3 = b := ⟨_, rfl⟩
      rw [hbv] at O1 ⊢
      clear hbv
      refine start_ (n := 10) (S := fun _ => True) (ds := []) #[false, false, false, false, false, false, false, false, false, false] (by kernel_rfl) rfl rfl trivial (fun hHeld => ?_)
      have O2 : Hid (wr.drew.ownsRow w.heap.size 5 1 b (hexL M n).length (nums .u8 (hexL M n))) := O1
      have F2 := Lib.hid (below_drew1 F1.out)
      clear O1 F1
      generalize wr.drew = w2 at O2 F2 ⊢
      refine pure_ (i := 0) (N := (some 10)) (v := ?_) (a' := ?_) #[true, false, false, false, false, false, false, false, false, false] rfl rfl (by kernel_rfl) (fun _ _ _ h => h) (Or.inl ⟨by rfl, ?_⟩) ?_ ?_
      rotate_left
      · intro w'
        go_simp
        try with_reducible rfl
      rotate_left
      · simp only [Act.put, List.setIfInBounds_toArray, List.set_cons_zero, List.set_cons_succ]
        rfl
      refine pure_ (i := 1) (N := (some 11)) (v := ?_) (a' := ?_) #[true, true, false, false, false, false, false, false, false, false] rfl rfl (by kernel_rfl) (fun _ _ _ h => h) (Or.inl ⟨by rfl, ?_⟩) ?_ ?_
      rotate_left
      · intro w'
        go_simp
        try with_reducible rfl
      rotate_left
      · simp only [Act.put, List.setIfInBounds_toArray, List.set_cons_zero, List.set_cons_succ]
        rfl
      refine pure_ (i := 4) (N := (some 14)) (v := ?_) (a' := ?_) #[true, true, false, false, true, false, false, false, false, false] rfl rfl (by kernel_rfl) (fun _ _ _ h => h) (Or.inl ⟨by rfl, ?_⟩) ?_ ?_
      rotate_left
      · intro w'
        go_simp
        try with_reducible rfl
      rotate_left
      · simp only [Act.put, List.setIfInBounds_toArray, List.set_cons_zero, List.set_cons_succ]
        rfl
      refine pure_ (i := 2) (N := (some 12)) (v := .int .u8 (c / 16)) (a' := ?_) #[true, true, true, false, true, false, false, false, false, false] rfl rfl (by kernel_rfl) (fun _ _ _ h => h) (Or.inl ⟨by rfl, ?_⟩) ?_ ?_
      · intro w'
        go_simp
      rotate_left
      · simp only [Act.put, List.setIfInBounds_toArray, List.set_cons_zero, List.set_cons_succ]
        rfl
      refine pure_ (i := 5) (N := (some 15)) (v := .int .u8 (c % 16)) (a' := ?_) #[true, true, true, false, true, true, false, false, false, false] rfl rfl (by kernel_rfl) (fun _ _ _ h => h) (Or.inl ⟨by rfl, ?_⟩) ?_ ?_
      · intro w'
        go_simp
      rotate_left
      · simp only [Act.put, List.setIfInBounds_toArray, List.set_cons_zero, List.set_cons_succ]
        rfl
      refine pure_ (i := 3) (N := (some 13)) (v := .int .u8 (bt DG (c / 16))) (a' := ?_) #[true, true, true, true, true, true, false, false, false, false] rfl rfl (by kernel_rfl) (fun _ _ _ h => h) (Or.inl ⟨by rfl, ?_⟩) ?_ ?_
      · intro w'
        go_simp
      rotate_left
      · simp only [Act.put, List.setIfInBounds_toArray, List.set_cons_zero, List.set_cons_succ]
        rfl
      refine pure_ (i := 6) (N := (some 16)) (v := .int .u8 (bt DG (c % 16))) (a' := ?_) #[true, true, true, true, true, true, true, false, false, false] rfl rfl (by kernel_rfl) (fun _ _ _ h => h) (Or.inl ⟨by rfl, ?_⟩) ?_ ?_
      · intro w'
        go_simp
      rotate_left
      · simp only [Act.put, List.setIfInBounds_toArray, List.set_cons_zero, List.set_cons_succ]
        rfl
      refine one_ (i := 7) (N := (some 17)) #[true, true, true, true, true, true, true, true, false, false] rfl rfl (by kernel_rfl) (by decide) (fun K hK => ?_)
      rw [if_pos (by rfl)]
      go_step
      have O3 : Hid ((w2.alloc (.cells #[.int .u8 (bt DG (c / 16)), .int .u8 (bt DG (c % 16))] 5)).ownsRow w.heap.size 5 1 b (hexL M n).length (nums .u8 (hexL M n))) := Lib.hid (O2.out.alloc _)
      have N3 := Lib.hid (blk_new w2 (.cells #[.int .u8 (bt DG (c / 16)), .int .u8 (bt DG (c % 16))] 5))
      have F3 := Lib.hid (below_alloc F2.out (.cells #[.int .u8 (bt DG (c / 16)), .int .u8 (bt DG (c % 16))] 5))
      clear O2 F2
      generalize w2.alloc _ = w3 at O3 N3 F3 ⊢
      generalize w2.heap.size = z at N3 ⊢
      refine hK.out _ _ trivial (fun hHeld => ?_)
      clear hK K
      refine one_ (i := 8) (N := (some 18)) #[true, true, true, true, true, true, true, true, true, false] rfl rfl (by kernel_rfl) (by decide) (fun K hK => ?_)
      rw [if_pos (by rfl)]
      have hbase : w.heap.size ≤ w3.heap.size := below_size F3.out
      refine wp_append_own w3 (.tmp 10) (.tmp 17) 50 rfl w.heap.size 5 ti (.int .u8 0) 1 1 Try.underlying50 hti ht1 ht2 ht3 rfl (by decide) b _ (nums .u8 (hexL M n)) rfl O3.out ⟨z, 0, none⟩ 2 2 [.int .u8 (bt DG (c / 16)), .int .u8 (bt DG (c % 16))] rfl rfl ?_ ?_ ?_ ?_ hbase ?_
      · intro j u hj
        match j, hj with
        | 0, hj => exact ((blk_cell N3.out 0).trans hj)
        | 1, hj => exact ((blk_cell N3.out 1).trans hj)
      · intro u hu
        simp only [List.mem_cons, List.not_mem_nil, or_false] at hu
        rcases hu with rfl | rfl <;> rfl
      · rw [hexL_len, maxLen]; omega
      · rw [hexL_len]; omega
      intro v4 w4 hown hgr _
      have O4 : Hid (w4.ownsRow w.heap.size 5 1 v4 (hexL M (n + 1)).length (nums .u8 (hexL M (n + 1)))) := Lib.hid (by rw [HH.out, hx2, List.length_append, nums, List.map_append]; exact hown)
      have F4 : Hid (Below w.heap.size w w4) := Lib.hid (Below.grown F3.out hgr hbase (fun k hk => (O3.out.lt k hk).1))
      clear O3 F3 N3 hown hgr
      show K (Act.put _ (some 18) _) _
      refine hK.out _ _ trivial (fun hHeld => ?_)
      clear hK K
      refine norm_ (a' := ?_) ?_ ?_
      rotate_left
      · simp only [Act.put, List.setIfInBounds_toArray, List.set_cons_zero, List.set_cons_succ]
        rfl
      refine pure_ (i := 9) (N := (some 3)) (v := ?_) (a' := ?_) #[true, true, true, true, true, true, true, true, true, true] rfl rfl (by kernel_rfl) (fun _ _ _ h => h) (Or.inl ⟨by rfl, ?_⟩) ?_ ?_
      rotate_left
      · intro w'
        go_simp
        try with_reducible rfl
      rotate_left
      · simp only [Act.put, List.setIfInBounds_toArray, List.set_cons_zero, List.set_cons_succ]
        rfl
      refine done_ (by kernel_rfl) ?_
      go_wp2_with fail
      go_roundw
      case rel => exact ⟨n + 1, by omega, by go_num, O4, F4⟩
      case measure => simp [intOf]; omega
    · have hlt : ¬ (n : Int) < 32 := by omega
      obtain rfl : n = 32 := by omega
      have hcv := own_string (P := Try.prog) Try.underlying50 Try.underlying5 Try.underlying9 O1.out
      rw [HOUT.out] at hcv
      go_wp2
      go_ret
      exact ⟨rfl, F1.out⟩
end Go.Proofs.Ytndfpidilodmgaa.Hand
