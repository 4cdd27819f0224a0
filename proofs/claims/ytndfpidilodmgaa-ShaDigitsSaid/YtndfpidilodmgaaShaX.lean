/- What Parse of package sha returns. -/
import Derived.Test.YtndfpidilodmgaaShaPE
import Derived.Lib.OthersKept
set_option linter.unusedSimpArgs false
set_option linter.unusedVariables false
namespace Go.Proofs.Ytndfpidilodmgaa.Hand
open Go.RowKit Go.Proofs.YtndfpidilodmgaaW.PrintWords Go.Proofs.YtndfpidilodmgaaW.PrintLast
/-- The number of a digit, or -1. -/
def kx (c : Int) : Int := Lib.indexByte DG.data.toList c.toNat.toUInt8
def PO (t : ByteArray) : Nat → List Int
  | 0 => Z32
  | i + 1 => (PO t i).set (i / 2) (bits .or .u8 ((PO t i).getD (i / 2) 0 * 16 % 256) (kx (bt t (i : Int))))
theorem PO_len (t : ByteArray) : ∀ i, (PO t i).length = 32
  | 0 => rfl
  | i + 1 => by rw [PO, List.length_set]; exact PO_len t i
/-- All digits are some. -/
def allX (t : ByteArray) (n : Nat) : Bool := (List.range n).all fun i => decide (0 ≤ kx (bt t (i : Int)))
theorem allX_succ (t : ByteArray) (n : Nat) : allX t (n + 1) = (allX t n && decide (0 ≤ kx (bt t (n : Int)))) := by
  simp [allX, List.range_succ, List.all_append]
theorem kx_ascii : ∀ c : Fin 256, 0 ≤ kx (c.val : Int) → c.val < 128 ∧ kx (c.val : Int) < 16 := by decide +kernel
theorem kx_ge : ∀ c : Fin 256, kx (c.val : Int) < 0 → kx (c.val : Int) = -1 := by decide +kernel
theorem allX_no (t : ByteArray) (n m : Nat) (h : n < m) (hk : ¬ 0 ≤ kx (bt t (n : Int))) : allX t m = false := by
  rw [Bool.eq_false_iff]
  intro ha
  have := List.all_eq_true.mp ha n (List.mem_range.mpr h)
  exact hk (of_decide_eq_true this)
def parsed (t : ByteArray) : Bool := decide (t.size = 64) && allX t 64
theorem parsed_no {α : Type} (t : ByteArray) (h : parsed t = false) (X Y : α) : (if parsed t = true then X else Y) = Y := by rw [h]; rfl
set_option maxRecDepth 100000 in
set_option maxHeartbeats 1600000 in
theorem parse_walk (t : ByteArray) (w : World) : Calls Try.prog 17 #[.string t] w fun e w' => e = .returned (.tuple #[.agg (rowb (if parsed t = true then PO t 64 else Z32)), .int .i64 (if parsed t = true then 0 else 3)]) ∧ Below w.heap.size w w' := by
  have hi32 : (Try.prog.info? 27).map (·.size) = some 32 := by kernel_rfl
  have S1 := Lib.hid (blk_alloc (blk_new w (.cells (rowb Z32) 27)) (.cells (rowb Z32) 27))
  have S2 := Lib.hid (heap_alloc2_new w (.cells (rowb Z32) 27) (.cells (rowb Z32) 27))
  have F := Lib.hid (below_alloc (below_alloc (Below.refl w.heap.size w) (.cells (rowb Z32) 27)) (.cells (rowb Z32) 27))
  by_cases h64 : t.size = 64
  · have hI : (t.size : Int) = 64 := by omega
    obtain ⟨OUT, hO⟩ : ∃ O, (if parsed t = true then PO t 64 else Z32) = O := ⟨_, rfl⟩
    obtain ⟨c, hc⟩ : ∃ c : Int, (if parsed t = true then 0 else 3) = c := ⟨_, rfl⟩
    rw [hO, hc]
    have HO := Lib.hid hO
    have HC := Lib.hid hc
    clear hO hc
    have H64 := Lib.hid h64
    go_enter Try.func17, Try.ntmps17
    go_upto_region 4 with (fail)
    change Code.wp _ _ _ _ ((w.alloc (.cells (rowb Z32) 27)).alloc (.cells (rowb Z32) 27))
    generalize (w.alloc _).alloc _ = w1 at S1 S2 F ⊢
    obtain ⟨g, hg⟩ : ∃ g, w.heap.size = g := ⟨_, rfl⟩
    have hg0 : w.heap.size ≤ g := by omega
    have hg1 : w.heap.size ≤ g + 1 := by omega
    rw [hg] at S1 S2 ⊢
    clear h64
    go_upto_region 5 with (fail)
    have A1 : Hid ((w1.iter t 0).heap[g]? = some (.cells (rowb Z32) 27 (0, 0))) := Lib.hid (blk_alloc S1.out (.stringIter t 0))
    have A2 : Hid ((w1.iter t 0).heap[g + 1]? = some (.cells (rowb (PO t 0)) 27 (0, 0))) := Lib.hid (blk_alloc S2.out (.stringIter t 0))
    have A3 : Hid ((w1.iter t 0).heap[w1.heap.size]? = some (.stringIter t 0)) := Lib.hid (blk_new w1 (.stringIter t 0))
    have A4 : Hid (Below w.heap.size w (w1.iter t 0)) := Lib.hid (below_alloc F.out (.stringIter t 0))
    have hit : g + 1 < w1.heap.size := blk_lt S2.out
    generalize w1.iter t 0 = w2 at A1 A2 A3 A4 ⊢
    generalize w1.heap.size = it at A3 hit ⊢
    have hit0 : w.heap.size ≤ it := by omega
    have ng : g ≠ it := by omega
    have ng1 : g + 1 ≠ it := by omega
    have ngg : g ≠ g + 1 := by omega
    have nit : it ≠ g + 1 := by omega
    clear S1 S2 F
    go_loopw [13] (fun v13 wr => ∃ n : Nat, n ≤ 64 ∧ Hid (allX t n = true) ∧ Hid (wr.heap[it]? = some (.stringIter t n)) ∧ Hid (wr.heap[g + 1]? = some (.cells (rowb (PO t n)) 27 (0, 0))) ∧ Hid (wr.heap[g]? = some (.cells (rowb Z32) 27 (0, 0))) ∧ Hid (Below w.heap.size w wr)) (fun _ wr => 64 - wr.iterPos it)
    case atStart => exact ⟨0, by omega, Lib.hid rfl, A3, A2, A1, A4⟩
    case round =>
      clear A1 A2 A3 A4
      obtain ⟨n, hn, HA, A3, A2, A1, A4⟩ := hrel
      by_cases h : n < 64
      · have hsz : n < t.size := by rw [H64.out]; exact h
        have hlt : (n : Int) < 64 := by omega
        have hn0 : (0 : Int) ≤ (n : Int) := by omega
        have hbr := bt_range t (n : Int)
        have hbt := bt_at t (n : Int)
        obtain ⟨b, hb⟩ : ∃ b, bt t (n : Int) = b := ⟨_, rfl⟩
        have HK := fun w => Try.strings_IndexByte DG b w
        obtain ⟨k, hk⟩ : ∃ k, kx b = k := ⟨_, rfl⟩
        have HKK : Hid (∀ w : World, Calls Try.prog 23 #[.string ⟨#[48, 49, 50, 51, 52, 53, 54, 55, 56, 57, 97, 98, 99, 100, 101, 102]⟩, .int .u8 b] w fun e w' => e = .returned (.int .i64 k) ∧ w' = w) := Lib.hid (fun w => by rw [← hk]; exact HK w)
        clear HK
        rw [hb] at hbt hbr
        have hbn : ((t[n]'hsz).toNat : Int) = b := by
          have := hbt (by simpa using hsz)
          simp only [Int.toNat_natCast] at this
          exact this
        clear hbt
        have hfin : ∃ q : Fin 256, (q.val : Int) = b := ⟨⟨b.toNat, by omega⟩, by simp; omega⟩
        have HBK : Hid (kx (bt t (n : Int)) = k) := Lib.hid (by rw [hb, hk])
        by_cases hk0 : 0 ≤ k
        · have hb128 : b < 128 ∧ k < 16 := by
            obtain ⟨q, hq⟩ := hfin
            have := kx_ascii q (by rw [hq, hk]; exact hk0)
            rw [hq, hk] at this
            omega
          have hk2 : k < 16 := hb128.2
          have hnk : ¬ k < 0 := by omega
          have hasc : (t[n]'hsz).toNat < 128 := by
            omega
          have hnx : ∀ ty, (Instr.next (.pointer (some ⟨it, 0, none⟩)) true ty).run Try.prog wr = _ := fun ty => Lib.run_next_ascii_at wr it t n ty A3.out hsz hasc
          have HA2 : Hid (allX t (n + 1) = true) := Lib.hid (by rw [allX_succ, HA.out, HBK.out, decide_eq_true hk0]; rfl)
          have B3 := Lib.hid (Lib.iterAt_heap wr it t n (n + 1) A3.out)
          have B2 : Hid ((wr.iterAt it t (n + 1)).heap[g + 1]? = some (.cells (rowb (PO t n)) 27 (0, 0))) := Lib.hid ((Lib.iterAt_other wr it (g + 1) t (n + 1) ng1).trans A2.out)
          have B1 : Hid ((wr.iterAt it t (n + 1)).heap[g]? = some (.cells (rowb Z32) 27 (0, 0))) := Lib.hid ((Lib.iterAt_other wr it g t (n + 1) ng).trans A1.out)
          have B4 : Hid (Below w.heap.size w (wr.iterAt it t (n + 1))) := Lib.hid (Lib.below_iterAt A4.out hit0 t (n + 1))
          have hm : Hid (wr.iterPos it = n) := Lib.hid (iterPos_of A3.out)
          clear hb hk hfin hb128 hbr
          go_upto_region 6 with (fail)
          generalize wr.iterAt it t (n + 1) = w3 at B1 B2 B3 B4 ⊢
          clear A1 A2 A3 A4 hnx
          have kc := rowb_get B2.out (n / 2) (by rw [PO_len]; omega)
          have kf := blk_frozen B2.out (n / 2)
          have C2 : Hid ((w3.setCell ⟨g + 1, n / 2, none⟩ (.int .u8 (bits .or .u8 ((PO t n).getD (n / 2) 0 * 16 % 256) k))).heap[g + 1]? = some (.cells (rowb (PO t (n + 1))) 27 (0, 0))) := Lib.hid (by rw [PO, HBK.out]; exact rowb_put B2.out (n / 2) _)
          have C1 : Hid ((w3.setCell ⟨g + 1, n / 2, none⟩ (.int .u8 (bits .or .u8 ((PO t n).getD (n / 2) 0 * 16 % 256) k))).heap[g]? = some (.cells (rowb Z32) 27 (0, 0))) := Lib.hid (blk_far B1.out (p := ⟨g + 1, n / 2, none⟩) ngg _)
          have C3 : Hid ((w3.setCell ⟨g + 1, n / 2, none⟩ (.int .u8 (bits .or .u8 ((PO t n).getD (n / 2) 0 * 16 % 256) k))).heap[it]? = some (.stringIter t (n + 1))) := Lib.hid ((Below.heap_setCell w3 ⟨g + 1, n / 2, none⟩ _ it nit).trans B3.out)
          have C4 : Hid (Below w.heap.size w (w3.setCell ⟨g + 1, n / 2, none⟩ (.int .u8 (bits .or .u8 ((PO t n).getD (n / 2) 0 * 16 % 256) k)))) := Lib.hid (below_set B4.out hg1)
          clear B1 B2 B3 B4
          generalize (PO t n).getD (n / 2) 0 = x at kc C1 C2 C3 C4
          go_wp2_with (go_at_call 23; (with_reducible refine (HKK.out _).mono ?_); rintro e w' ⟨rfl, rfl⟩)
          go_roundw
          case rel => exact ⟨n + 1, by omega, HA2, C3, C2, C1, C4⟩
          case measure => rw [iterPos_of C3.out, hm.out]; omega
        · have hkn : k = -1 := by
            obtain ⟨q, hq⟩ := hfin
            have := kx_ge q (by rw [hq, hk]; omega)
            rw [hq, hk] at this
            exact this
          have hp : parsed t = false := by rw [parsed, allX_no t n 64 h (by rw [HBK.out]; exact hk0), Bool.and_false]
          have hO := HO.out
          have hC := HC.out
          rw [parsed_no t hp] at hO hC
          subst hO hC
          subst hkn
          have hnx : ∀ ty, (Instr.next (.pointer (some ⟨it, 0, none⟩)) true ty).run Try.prog wr = _ := fun ty => Lib.run_next_any_at wr it t n ty A3.out hsz
          have B1 : Hid ((wr.iterAt it t (n + (Utf8.decode t n).2)).heap[g]? = some (.cells (rowb Z32) 27 (0, 0))) := Lib.hid ((Lib.iterAt_other wr it g t _ ng).trans A1.out)
          have B4 : Hid (Below w.heap.size w (wr.iterAt it t (n + (Utf8.decode t n).2))) := Lib.hid (Lib.below_iterAt A4.out hit0 t _)
          clear hb hk hfin hbr hk0 hp
          go_upto_region 6 with (fail)
          generalize wr.iterAt it t _ = w3 at B1 B4 ⊢
          clear A1 A2 A3 A4 hnx
          go_upto_region 9 with (go_at_call 23; (with_reducible refine (HKK.out _).mono ?_); rintro e w' ⟨rfl, rfl⟩)
          go_step
          refine wpList_build_to rfl 27 _ rfl (rowb Z32) (by kernel_rfl) ?_
          refine wpList_store_row rfl 27 _ _ rfl g (rowb Z32) rfl rfl 27 _ B1.out hi32 rfl (rowb_one _) ?_
          have S3 := Lib.hid (setRow_heap w' g _ (rowb Z32) 27 (0, 0) B1.out)
          have F3 : Hid (Below w.heap.size w (w'.setRow g (rowb Z32))) := Lib.hid (below_row B4.out hg0)
          clear B1 B4
          generalize w'.setRow _ _ = w9 at S3 F3 ⊢
          go_wp2
          exact bodyPost_ret (v := .tuple #[.agg (rowb Z32), .int .i64 3]) (results_cell_tmp rfl _ _ g 27 (rowb Z32) (0, 0) _ rfl S3.out Try.underlying27 rfl hi32 _ rfl) rfl ⟨rfl, by first | exact F3.out | (rw [← hg]; exact F3.out)⟩
      · obtain rfl : n = 64 := by omega
        have hp : parsed t = true := by rw [parsed, HA.out, decide_eq_true H64.out]; rfl
        have hO := HO.out
        have hC := HC.out
        rw [if_pos hp] at hO hC
        subst hO hC
        have hnx : ∀ ty, (Instr.next (.pointer (some ⟨it, 0, none⟩)) true ty).run Try.prog wr = _ := fun ty => Lib.run_next_end_at wr it t 64 ty A3.out (by rw [H64.out]; omega)
        have hszO : (rowb (PO t 64)).size = 32 := by rw [rowb, List.size_toArray, List.length_map, PO_len]
        go_upto_region 11 with (fail)
        go_step
        refine wpList_load_row rfl 27 _ rfl (g + 1) rfl 27 _ _ _ A2.out Try.underlying27 rfl (by rw [hszO]; exact hi32) ?_
        refine wpList_store_row rfl 27 _ _ rfl g (rowb (PO t 64)) rfl rfl 27 _ A1.out (by rw [hszO]; exact hi32) (by rw [hszO]; rfl) (rowb_one _) ?_
        have S3 := Lib.hid (setRow_heap wr g _ (rowb (PO t 64)) 27 (0, 0) A1.out)
        have F3 : Hid (Below w.heap.size w (wr.setRow g (rowb (PO t 64)))) := Lib.hid (below_row A4.out hg0)
        clear A1 A2 A3 A4 hnx
        generalize wr.setRow _ _ = w9 at S3 F3 ⊢
        go_wp2
        exact bodyPost_ret (v := .tuple #[.agg (rowb (PO t 64)), .int .i64 0]) (results_cell_tmp rfl _ _ g 27 (rowb (PO t 64)) (0, 0) _ rfl S3.out Try.underlying27 rfl (by rw [hszO]; exact hi32) _ rfl) rfl ⟨rfl, by first | exact F3.out | (rw [← hg]; exact F3.out)⟩
  · have hI : ¬ (t.size : Int) = 64 := by omega
    have hp : parsed t = false := by rw [parsed, decide_eq_false h64]; rfl
    rw [parsed_no t hp, parsed_no t hp]
    go_enter Try.func17, Try.ntmps17
    go_upto_region 3 with (fail)
    go_step
    change wpList _ _ _ _ _ ((w.alloc (.cells (rowb Z32) 27)).alloc (.cells (rowb Z32) 27))
    generalize (w.alloc _).alloc _ = w1 at S1 S2 F ⊢
    obtain ⟨g, hg⟩ : ∃ g, w.heap.size = g := ⟨_, rfl⟩
    have hg0 : w.heap.size ≤ g := by omega
    rw [hg] at S1 S2 ⊢
    refine wpList_build_to rfl 27 _ rfl (rowb Z32) (by kernel_rfl) ?_
    refine wpList_store_row rfl 27 _ _ rfl g (rowb Z32) rfl rfl 27 _ S1.out hi32 rfl (rowb_one _) ?_
    have S3 := Lib.hid (setRow_heap w1 g _ (rowb Z32) 27 (0, 0) S1.out)
    have F3 : Hid (Below w.heap.size w (w1.setRow g (rowb Z32))) := Lib.hid (below_row F.out hg0)
    clear S1 S2 F
    generalize w1.setRow _ _ = w9 at S3 F3 ⊢
    go_wp2
    exact bodyPost_ret (v := .tuple #[.agg (rowb Z32), .int .i64 3]) (results_cell_tmp rfl _ _ g 27 (rowb Z32) (0, 0) _ rfl S3.out Try.underlying27 rfl hi32 _ rfl) rfl ⟨rfl, by first | exact F3.out | (rw [← hg]; exact F3.out)⟩
end Go.Proofs.Ytndfpidilodmgaa.Hand
