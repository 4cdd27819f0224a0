/- The page's example of layer 27. -/
import Derived.Test.YtegaadahogjeiaaBatF
namespace Go.Proofs.Ytegaadahogjeiaa.Hand
open Go.RowKit Go.Proofs.Ytegaadahogjeiaa.PBatchPlays Go.Proofs.YtegaadahogjeiaaW.PrintWords Go.Proofs.YtegaadahogjeiaaW.PrintLast Go.Proofs.YtegaadahogjeiaaW.PrintMore
set_option linter.unusedVariables false
set_option linter.unusedSimpArgs false
def ex4 : S37 := ⟨4, ⟨0, 0, 0, 0, ⟨#[]⟩⟩, ⟨#[]⟩⟩
def ex2 : S37 := ⟨2, ⟨0, 0, 0, 0, ⟨#[]⟩⟩, ⟨#[]⟩⟩
set_option maxRecDepth 100000 in
theorem awake27_walk (w : World) : Calls Try.prog 6 #[] w fun e w' => e = .returned (.bool true) ∧ Below w.heap.size w w' := by
  have HB1 := Lib.hid (below_alloc (Below.refl w.heap.size w) (.cells #[.int .i64 2, .int .u64 3, .int .u64 0, .slice none 0 0] 51))
  have HN1 := Lib.hid (blk_new w (.cells #[.int .i64 2, .int .u64 3, .int .u64 0, .slice none 0 0] 51))
  go_enter Try.func6, Try.ntmps6
  go_upto_region 2 with (go_at_call 5; (with_reducible refine (new_good 2 3 (by decide) (by decide) (by decide) (by decide) _).mono ?_); rintro e w1 ⟨rfl, hw1⟩)
  rw [hw1] at HB1 HN1
  clear hw1
  generalize hb : w.heap.size = b at HN1 ⊢
  have HM := Lib.hid (blk_new w1 (.cells #[.int .i64 4, .int .i64 0, .int .i64 0, .int .u64 0, .int .u64 0, .string ⟨#[]⟩, .string ⟨#[]⟩] 37))
  go_upto_region 3 with (fail)
  have HB2 := Lib.hid (below_alloc HB1.out (.cells #[.int .i64 4, .int .i64 0, .int .i64 0, .int .u64 0, .int .u64 0, .string ⟨#[]⟩, .string ⟨#[]⟩] 37))
  have HN2 := Lib.hid (blk_alloc HN1.out (.cells #[.int .i64 4, .int .i64 0, .int .i64 0, .int .u64 0, .int .u64 0, .string ⟨#[]⟩, .string ⟨#[]⟩] 37))
  generalize w1.alloc _ = w2 at HM HB2 HN2 ⊢
  generalize w1.heap.size = bm at HM ⊢
  have y0 := blk_cell HM.out 0
  have y1 := blk_cell HM.out 1
  have y2 := blk_cell HM.out 2
  have y3 := blk_cell HM.out 3
  have y4 := blk_cell HM.out 4
  have y5 := blk_cell HM.out 5
  have y6 := blk_cell HM.out 6
  have HW2 : Hid (Below b w w2) := Lib.hid (by rw [← hb]; exact HB2.out)
  have HA1 : Hid (Calls Try.prog 9 #[.pointer (some ⟨b, 0, none⟩), .agg #[.int .i64 4, .int .i64 0, .int .i64 0, .int .u64 0, .int .u64 0, .string ⟨#[]⟩, .string ⟨#[]⟩], .int .u64 5] w2 fun e w' => e = .returned (.int .i64 0) ∧ AddPost 51 (.int .u64 3) b b 2 0 5 (.slice none 0 0) [] ex4 w2 w') := Lib.hid (by
    have := badd_any b b 2 3 0 5 (.slice none 0 0) [] ex4 (by decide) w2 (Nat.le_refl _) (Kd.R_nil _ _ _ _ _) HN2.out
    rwa [show codeF 2 [] ex4 = 0 by decide +kernel] at this)
  go_upto_region 4 with (go_at_call 9; (with_reducible refine HA1.out.mono ?_); rintro e w3 ⟨rfl, hp⟩; have HP := Lib.hid hp; clear hp)
  clear y0 y1 y2 y3 y4 y5 y6
  obtain ⟨v1, h1, h2, _, h4, _⟩ := HP.out
  rw [show nextF 2 0 5 [] ex4 = 5 by decide +kernel] at h1
  rw [show nextL 2 [] ex4 = [ex4] by rw [nextL, if_pos (by decide +kernel)]; rfl] at h2
  have HW3 := Lib.hid (below_baseb HW2.out h4)
  have HN3 := Lib.hid h1
  have HR3 := Lib.hid h2
  clear h1 h2 h4
  have HD7 : Hid (∀ w4, Below w3.heap.size w3 w4 → Calls Try.prog 11 #[.pointer (some ⟨b, 0, none⟩), .int .u64 7] w4 fun e w' => e = .returned (.bool false) ∧ Below w4.heap.size w4 w') := Lib.hid (fun w4 h => by
    obtain ⟨A1, c1, rfl⟩ := Kd.R_slice HR3.out
    have := due_walk b 2 3 5 7 A1 1 c1 w4 ((h.block b (blk_lt HN3.out)).trans HN3.out)
    rwa [show dueB 2 3 5 7 1 = false by decide +kernel] at this)
  have HD8 : Hid (∀ w4, Below w3.heap.size w3 w4 → Calls Try.prog 11 #[.pointer (some ⟨b, 0, none⟩), .int .u64 8] w4 fun e w' => e = .returned (.bool true) ∧ Below w4.heap.size w4 w') := Lib.hid (fun w4 h => by
    obtain ⟨A1, c1, rfl⟩ := Kd.R_slice HR3.out
    have := due_walk b 2 3 5 8 A1 1 c1 w4 ((h.block b (blk_lt HN3.out)).trans HN3.out)
    rwa [show dueB 2 3 5 8 1 = true by decide +kernel] at this)
  have HA2 : Hid (∀ w4, Below w3.heap.size w3 w4 → Calls Try.prog 9 #[.pointer (some ⟨b, 0, none⟩), .agg #[.int .i64 2, .int .i64 0, .int .i64 0, .int .u64 0, .int .u64 0, .string ⟨#[]⟩, .string ⟨#[]⟩], .int .u64 6] w4 fun e w' => e = .returned (.int .i64 0) ∧ AddPost 51 (.int .u64 3) b b 2 5 6 v1 [ex4] ex2 w4 w') := Lib.hid (fun w4 h => by
    have := badd_any b b 2 3 5 6 v1 [ex4] ex2 (by decide) w4 (Nat.le_refl _) (Kd.R_below HR3.out h) ((h.block b (blk_lt HN3.out)).trans HN3.out)
    rwa [show codeF 2 [ex4] ex2 = 0 by decide +kernel] at this)
  have HK := Lib.hid (Below.refl w3.heap.size w3)
  go_upto_region 6 with (first
    | (go_at_call 11; (with_reducible refine (HD7.out _ HK.out).mono ?_); rintro e w4 ⟨rfl, h⟩; have HK := Lib.hid (below_step HK.out h); clear h)
    | (go_at_call 11; (with_reducible refine (HD8.out _ HK.out).mono ?_); rintro e w4 ⟨rfl, h⟩; have HK := Lib.hid (below_step HK.out h); clear h)
    | (go_at_call 9; (with_reducible refine (HA2.out _ HK.out).mono ?_); rintro e w5 ⟨rfl, hp⟩; have HQ := Lib.hid hp; clear hp))
  obtain ⟨v2, h1, h2, _, h4, _⟩ := HQ.out
  rw [show nextF 2 5 6 [ex4] ex2 = 5 by decide +kernel] at h1
  rw [show nextL 2 [ex4] ex2 = [ex4, ex2] by rw [nextL, if_pos (by decide +kernel)]; rfl] at h2
  have HW5 := Lib.hid (below_baseb (below_baseb HW3.out (below_weakb HK.out (Nat.le_of_lt (blk_lt HN3.out)))) h4)
  have HD0 : Hid (Calls Try.prog 11 #[.pointer (some ⟨b, 0, none⟩), .int .u64 0] w5 fun e w' => e = .returned (.bool true) ∧ Below w5.heap.size w5 w') := Lib.hid (by
    obtain ⟨A1, c1, rfl⟩ := Kd.R_slice h2
    have := due_walk b 2 3 5 0 A1 2 c1 w5 h1
    rwa [show dueB 2 3 5 0 2 = true by decide +kernel] at this)
  have HBS := Lib.hid (Nat.le_of_lt (blk_lt h1))
  clear h1 h2 h4
  go_wp2_with (go_at_call 11; (with_reducible refine HD0.out.mono ?_); rintro e w6 ⟨rfl, h⟩; have HW6 := Lib.hid (below_baseb HW5.out (below_weakb h HBS.out)); clear h)
  go_ret
  exact ⟨rfl, by rw [hb]; exact HW6.out⟩
end Go.Proofs.Ytegaadahogjeiaa.Hand
