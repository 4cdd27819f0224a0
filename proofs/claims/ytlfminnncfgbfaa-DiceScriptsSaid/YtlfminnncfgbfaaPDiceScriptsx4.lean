/- Written for this claim by a program of the session (wip/tools/inject.py) over the kit's print; what is proved by hand is imported. -/
import Derived.Test.YtlfminnncfgbfaaPDiceScriptsx0
namespace Go.Proofs.Ytlfminnncfgbfaa.PDiceScripts
open Go.Proofs.Ytlfminnncfgbfaa.Hand
open Go.RowKit Go.Proofs.YtlfminnncfgbfaaW.PrintWords Go.Proofs.YtlfminnncfgbfaaW.PrintLast Go.Proofs.YtlfminnncfgbfaaW.PrintMore
attribute [local go_sem] max2_int min2_int max_two min_two max_three min_three max_four min_four   -- for this text's walks alone
set_option linter.unusedVariables false
set_option linter.unusedSimpArgs false

/-! ### muleteerref07_Same: function 9 -/
def muleteerref07_Same.l0 : Nat → Int → List Bool → Int → Int → Int → Int → Int → Int → Int → Int → Int → Int → Int → List Bool → Int → Int → Int → Int → Int → Int → Int → Int → Int → Int → Int → Option (Bool)
  | 0, _, _, _, _, _, _, _, _, _, _, _, _, _, _, _, _, _, _, _, _, _, _, _, _, _ => none
  | k + 1, x5, x143000, x143001, x143002, x143003, x143004, x143005, x143006, x143007, x143008, x143009, x143010, x143011, x144000, x144001, x144002, x144003, x144004, x144005, x144006, x144007, x144008, x144009, x144010, x144011 => if x5 < (x143000.length : Int) then (if 0 ≤ x5 then (if x5 < (x144000.length : Int) then (if rdOf false x143000 x5 = true then (if rdOf false x144000 x5 = true then (muleteerref07_Same.l0 k (wrap64 (x5 + 1)) x143000 x143001 x143002 x143003 x143004 x143005 x143006 x143007 x143008 x143009 x143010 x143011 x144000 x144001 x144002 x144003 x144004 x144005 x144006 x144007 x144008 x144009 x144010 x144011) else (some false)) else (if rdOf false x144000 x5 = true then (some false) else (muleteerref07_Same.l0 k (wrap64 (x5 + 1)) x143000 x143001 x143002 x143003 x143004 x143005 x143006 x143007 x143008 x143009 x143010 x143011 x144000 x144001 x144002 x144003 x144004 x144005 x144006 x144007 x144008 x144009 x144010 x144011))) else (none)) else (none)) else (if x143001 = x144001 then (if x143002 = x144002 then (if x143003 = x144003 then (if x143004 = x144004 then (if x143005 = x144005 then (if x143006 = x144006 then (if x143007 = x144007 then (if x143008 = x144008 then (if x143009 = x144009 then (if x143010 = x144010 then (some (x143011 == x144011)) else (some false)) else (some false)) else (some false)) else (some false)) else (some false)) else (some false)) else (some false)) else (some false)) else (some false)) else (some false))
def muleteerref07_Same.f (k : Nat) (l0_0 : List Bool) (a0_1 : Int) (a0_2 : Int) (a0_3 : Int) (a0_4 : Int) (a0_5 : Int) (a0_6 : Int) (a0_7 : Int) (a0_8 : Int) (a0_9 : Int) (a0_10 : Int) (a0_11 : Int) (l1_0 : List Bool) (a1_1 : Int) (a1_2 : Int) (a1_3 : Int) (a1_4 : Int) (a1_5 : Int) (a1_6 : Int) (a1_7 : Int) (a1_8 : Int) (a1_9 : Int) (a1_10 : Int) (a1_11 : Int) : Option (Bool) := if (l0_0.length : Int) = (l1_0.length : Int) then (muleteerref07_Same.l0 k 0 l0_0 a0_1 a0_2 a0_3 a0_4 a0_5 a0_6 a0_7 a0_8 a0_9 a0_10 a0_11 l1_0 a1_1 a1_2 a1_3 a1_4 a1_5 a1_6 a1_7 a1_8 a1_9 a1_10 a1_11) else (some false)
theorem muleteerref07_Same.mono_l : ∀ k, (∀ y0 y1 y2 y3 y4 y5 y6 y7 y8 y9 y10 y11 y12 y13 y14 y15 y16 y17 y18 y19 y20 y21 y22 y23 y24, LeO (muleteerref07_Same.l0 k y0 y1 y2 y3 y4 y5 y6 y7 y8 y9 y10 y11 y12 y13 y14 y15 y16 y17 y18 y19 y20 y21 y22 y23 y24) (muleteerref07_Same.l0 (k + 1) y0 y1 y2 y3 y4 y5 y6 y7 y8 y9 y10 y11 y12 y13 y14 y15 y16 y17 y18 y19 y20 y21 y22 y23 y24))
  | 0 => fun _ _ _ _ _ _ _ _ _ _ _ _ _ _ _ _ _ _ _ _ _ _ _ _ _ r h => by simp [muleteerref07_Same.l0] at h
  | k + 1 => by
    have ih0 := muleteerref07_Same.mono_l k
    · intro y0 y1 y2 y3 y4 y5 y6 y7 y8 y9 y10 y11 y12 y13 y14 y15 y16 y17 y18 y19 y20 y21 y22 y23 y24
      unfold muleteerref07_Same.l0
      repeat' first
      | (with_reducible exact ih0 _ _ _ _ _ _ _ _ _ _ _ _ _ _ _ _ _ _ _ _ _ _ _ _ _)
      | (with_reducible exact LeO.refl _)
      | (with_reducible exact LeO.none _)
      | (with_reducible refine LeO.ite ?_ ?_)
      | (with_reducible refine LeO.bind ?_ (fun _ => ?_))
      | exact ih0 _ _ _ _ _ _ _ _ _ _ _ _ _ _ _ _ _ _ _ _ _ _ _ _ _
      | exact LeO.none _
      | refine LeO.ite ?_ ?_
      | refine LeO.bind ?_ (fun _ => ?_)
theorem muleteerref07_Same.mono : ∀ a0 a1 a2 a3 a4 a5 a6 a7 a8 a9 a10 a11 a12 a13 a14 a15 a16 a17 a18 a19 a20 a21 a22 a23 k, LeO (muleteerref07_Same.f k a0 a1 a2 a3 a4 a5 a6 a7 a8 a9 a10 a11 a12 a13 a14 a15 a16 a17 a18 a19 a20 a21 a22 a23) (muleteerref07_Same.f (k + 1) a0 a1 a2 a3 a4 a5 a6 a7 a8 a9 a10 a11 a12 a13 a14 a15 a16 a17 a18 a19 a20 a21 a22 a23) := by
  intro a0 a1 a2 a3 a4 a5 a6 a7 a8 a9 a10 a11 a12 a13 a14 a15 a16 a17 a18 a19 a20 a21 a22 a23 k
  have ih0 := muleteerref07_Same.mono_l k
  unfold muleteerref07_Same.f
  repeat' first
      | (with_reducible exact ih0 _ _ _ _ _ _ _ _ _ _ _ _ _ _ _ _ _ _ _ _ _ _ _ _ _)
      | (with_reducible exact LeO.refl _)
      | (with_reducible exact LeO.none _)
      | (with_reducible refine LeO.ite ?_ ?_)
      | (with_reducible refine LeO.bind ?_ (fun _ => ?_))
      | exact ih0 _ _ _ _ _ _ _ _ _ _ _ _ _ _ _ _ _ _ _ _ _ _ _ _ _
      | exact LeO.none _
      | refine LeO.ite ?_ ?_
      | refine LeO.bind ?_ (fun _ => ?_)
set_option maxHeartbeats 8000000 in
set_option maxRecDepth 100000 in
theorem muleteerref07_Same.calls (k : Nat) (A0_0 : Option Addr) (c0_0 : Nat) (l0_0 : List Bool) (a0_1 : Int) (a0_2 : Int) (a0_3 : Int) (a0_4 : Int) (a0_5 : Int) (a0_6 : Int) (a0_7 : Int) (a0_8 : Int) (a0_9 : Int) (a0_10 : Int) (a0_11 : Int) (A1_0 : Option Addr) (c1_0 : Nat) (l1_0 : List Bool) (a1_1 : Int) (a1_2 : Int) (a1_3 : Int) (a1_4 : Int) (a1_5 : Int) (a1_6 : Int) (a1_7 : Int) (a1_8 : Int) (a1_9 : Int) (a1_10 : Int) (a1_11 : Int) (r : Bool) (w : World) (hr0_0 : Kd.C Kd.bool w A0_0 l0_0.length l0_0) (hc0_0 : l0_0.length ≤ c0_0) (hr1_0 : Kd.C Kd.bool w A1_0 l1_0.length l1_0) (hc1_0 : l1_0.length ≤ c1_0) (h : muleteerref07_Same.f k l0_0 a0_1 a0_2 a0_3 a0_4 a0_5 a0_6 a0_7 a0_8 a0_9 a0_10 a0_11 l1_0 a1_1 a1_2 a1_3 a1_4 a1_5 a1_6 a1_7 a1_8 a1_9 a1_10 a1_11 = some r) :
    Calls Try.prog 9 #[.agg #[.slice A0_0 l0_0.length c0_0, .int .i64 a0_1, .int .i64 a0_2, .int .i64 a0_3, .int .i64 a0_4, .int .i64 a0_5, .int .i64 a0_6, .int .i64 a0_7, .int .i64 a0_8, .int .i64 a0_9, .int .i64 a0_10, .int .u64 a0_11], .agg #[.slice A1_0 l1_0.length c1_0, .int .i64 a1_1, .int .i64 a1_2, .int .i64 a1_3, .int .i64 a1_4, .int .i64 a1_5, .int .i64 a1_6, .int .i64 a1_7, .int .i64 a1_8, .int .i64 a1_9, .int .i64 a1_10, .int .u64 a1_11]] w fun e w' => e = .returned (.bool r) ∧ Below w.heap.size w w' := by
  have hu25 := Try.underlying25
  have HR0_0 := Aside0.mk hr0_0
  have HC0_0 := Aside0.mk hc0_0
  clear hr0_0 hc0_0
  have HR1_0 := Aside0.mk hr1_0
  have HC1_0 := Aside0.mk hc1_0
  clear hr1_0 hc1_0
  have HB := Aside0.mk (Below.refl w.heap.size w)
  have H : (if (l0_0.length : Int) = (l1_0.length : Int) then (muleteerref07_Same.l0 k 0 l0_0 a0_1 a0_2 a0_3 a0_4 a0_5 a0_6 a0_7 a0_8 a0_9 a0_10 a0_11 l1_0 a1_1 a1_2 a1_3 a1_4 a1_5 a1_6 a1_7 a1_8 a1_9 a1_10 a1_11) else (some false)) = some r := h
  clear h
  by_cases c3 : (l0_0.length : Int) = (l1_0.length : Int)
  · rw [if_pos c3] at H
    have c3b0 : ((l0_0.length : Int) == (l1_0.length : Int)) = true := beq_iff_eq.mpr c3
    have c3b1 : ((l0_0.length : Int) != (l1_0.length : Int)) = false := bne_eq_false_iff_eq.mpr c3
    have c3b2 : (l0_0.length == l1_0.length) = true := by first | simpa using c3 | (simp at c3 ⊢; omega)
    clear c3
    have H' := Aside0.mk H
    clear H
    go_enter Try.func9, Try.ntmps9
    go_wp2_with (first | ((with_reducible refine gate_dst (N := 2) rfl ?_); refine box_event ?hg (N := 2) ?hd (cs := #[.slice A0_0 l0_0.length c0_0, .int .i64 a0_1, .int .i64 a0_2, .int .i64 a0_3, .int .i64 a0_4, .int .i64 a0_5, .int .i64 a0_6, .int .i64 a0_7, .int .i64 a0_8, .int .i64 a0_9, .int .i64 a0_10, .int .u64 a0_11]) (t := 25) ?hr ?_; (case hd => rfl); (case hg => rfl); (case hr => first | (go_simp; done) | (go_simp; rfl)); intro gb142 hg w4 hbox hb; have n0_ := Aside0.mk (below_step (by repeat (first | (with_reducible first | exact HB.out | apply below_alloc | apply pw_below_drewN | apply below_drew1) | exact HB.out)) hb); have n1_ := Aside0.mk (hbox); have n2_ := Aside0.mk ((by rw [hg]; exact (below_size (by repeat (first | (with_reducible first | exact HB.out | apply below_alloc | apply pw_below_drewN | apply below_drew1) | exact HB.out))) : w.heap.size ≤ gb142)); have n3_ := Aside0.mk ((by rw [hg]; exact (below_size (by repeat (first | (with_reducible first | exact HB.out | apply below_alloc | apply pw_below_drewN | apply below_drew1) | exact HB.out))) : w.heap.size ≤ gb142)); clear HB; have HB := n0_; have BK142 := n1_; have GW142 := n2_; have GE142 := n3_; clear n0_ n1_ n2_ n3_; clear hb hbox hg) | ((with_reducible refine gate_dst (N := 3) rfl ?_); refine box_event ?hg (N := 3) ?hd (cs := #[.slice A1_0 l1_0.length c1_0, .int .i64 a1_1, .int .i64 a1_2, .int .i64 a1_3, .int .i64 a1_4, .int .i64 a1_5, .int .i64 a1_6, .int .i64 a1_7, .int .i64 a1_8, .int .i64 a1_9, .int .i64 a1_10, .int .u64 a1_11]) (t := 25) ?hr ?_; (case hd => rfl); (case hg => rfl); (case hr => first | (go_simp; done) | (go_simp; rfl)); intro gb143 hg w5 hbox hb; have n0_ := Aside0.mk (blk_below (g := gb142) (o := .cells #[.slice A0_0 l0_0.length c0_0, .int .i64 a0_1, .int .i64 a0_2, .int .i64 a0_3, .int .i64 a0_4, .int .i64 a0_5, .int .i64 a0_6, .int .i64 a0_7, .int .i64 a0_8, .int .i64 a0_9, .int .i64 a0_10, .int .u64 a0_11] 25 (0, 0)) (by (with_reducible repeat (first | refine blk_drewN ?_ _ | refine blk_drew ?_ | refine blk_alloc ?_ _)); exact BK142.out) hb); have n1_ := Aside0.mk (below_step (by repeat (first | (with_reducible first | exact HB.out | apply below_alloc | apply pw_below_drewN | apply below_drew1 | refine below_set ?_ GE142.out) | exact HB.out)) hb); have n2_ := Aside0.mk (hbox); have n3_ := Aside0.mk ((by rw [hg]; exact (below_size (by repeat (first | (with_reducible first | exact HB.out | apply below_alloc | apply pw_below_drewN | apply below_drew1 | refine below_set ?_ GE142.out) | exact HB.out))) : w.heap.size ≤ gb143)); have n4_ := Aside0.mk ((by rw [hg]; exact (below_size (by repeat (first | (with_reducible first | exact HB.out | apply below_alloc | apply pw_below_drewN | apply below_drew1 | refine below_set ?_ GE142.out) | exact HB.out))) : w.heap.size ≤ gb143)); have n5_ := Aside0.mk ((by rw [hg]; exact Nat.ne_of_lt (blk_lt (g := gb142) (o := .cells #[.slice A0_0 l0_0.length c0_0, .int .i64 a0_1, .int .i64 a0_2, .int .i64 a0_3, .int .i64 a0_4, .int .i64 a0_5, .int .i64 a0_6, .int .i64 a0_7, .int .i64 a0_8, .int .i64 a0_9, .int .i64 a0_10, .int .u64 a0_11] 25 (0, 0)) (by (with_reducible repeat (first | refine blk_drewN ?_ _ | refine blk_drew ?_ | refine blk_alloc ?_ _)); exact BK142.out)) : gb142 ≠ gb143)); have n6_ := Aside0.mk ((by rw [hg]; exact Nat.ne_of_gt (blk_lt (g := gb142) (o := .cells #[.slice A0_0 l0_0.length c0_0, .int .i64 a0_1, .int .i64 a0_2, .int .i64 a0_3, .int .i64 a0_4, .int .i64 a0_5, .int .i64 a0_6, .int .i64 a0_7, .int .i64 a0_8, .int .i64 a0_9, .int .i64 a0_10, .int .u64 a0_11] 25 (0, 0)) (by (with_reducible repeat (first | refine blk_drewN ?_ _ | refine blk_drew ?_ | refine blk_alloc ?_ _)); exact BK142.out)) : gb143 ≠ gb142)); clear BK142; clear HB; have BK142 := n0_; have HB := n1_; have BK143 := n2_; have GW143 := n3_; have GE143 := n4_; have NB142_143 := n5_; have NB143_142 := n6_; clear n0_ n1_ n2_ n3_ n4_ n5_ n6_; clear hb hbox hg; have hnb6 := NB142_143.out; have hnc6 := NB143_142.out; have hcz7_0 : w5.cell? ⟨gb142, 0, none⟩ = some (.slice A0_0 l0_0.length c0_0) := (blk_cell BK142.out 0).trans rfl; have hcz7_1 : w5.cell? ⟨gb142, 1, none⟩ = some (.int .i64 a0_1) := (blk_cell BK142.out 1).trans rfl; have hcz7_2 : w5.cell? ⟨gb142, 2, none⟩ = some (.int .i64 a0_2) := (blk_cell BK142.out 2).trans rfl; have hcz7_3 : w5.cell? ⟨gb142, 3, none⟩ = some (.int .i64 a0_3) := (blk_cell BK142.out 3).trans rfl; have hcz7_4 : w5.cell? ⟨gb142, 4, none⟩ = some (.int .i64 a0_4) := (blk_cell BK142.out 4).trans rfl; have hcz7_5 : w5.cell? ⟨gb142, 5, none⟩ = some (.int .i64 a0_5) := (blk_cell BK142.out 5).trans rfl; have hcz7_6 : w5.cell? ⟨gb142, 6, none⟩ = some (.int .i64 a0_6) := (blk_cell BK142.out 6).trans rfl; have hcz7_7 : w5.cell? ⟨gb142, 7, none⟩ = some (.int .i64 a0_7) := (blk_cell BK142.out 7).trans rfl; have hcz7_8 : w5.cell? ⟨gb142, 8, none⟩ = some (.int .i64 a0_8) := (blk_cell BK142.out 8).trans rfl; have hcz7_9 : w5.cell? ⟨gb142, 9, none⟩ = some (.int .i64 a0_9) := (blk_cell BK142.out 9).trans rfl; have hcz7_10 : w5.cell? ⟨gb142, 10, none⟩ = some (.int .i64 a0_10) := (blk_cell BK142.out 10).trans rfl; have hcz7_11 : w5.cell? ⟨gb142, 11, none⟩ = some (.int .u64 a0_11) := (blk_cell BK142.out 11).trans rfl; have hfz7_0 := blk_frozen BK142.out 0; have hfz7_1 := blk_frozen BK142.out 1; have hfz7_2 := blk_frozen BK142.out 2; have hfz7_3 := blk_frozen BK142.out 3; have hfz7_4 := blk_frozen BK142.out 4; have hfz7_5 := blk_frozen BK142.out 5; have hfz7_6 := blk_frozen BK142.out 6; have hfz7_7 := blk_frozen BK142.out 7; have hfz7_8 := blk_frozen BK142.out 8; have hfz7_9 := blk_frozen BK142.out 9; have hfz7_10 := blk_frozen BK142.out 10; have hfz7_11 := blk_frozen BK142.out 11; have hcz8_0 : w5.cell? ⟨gb143, 0, none⟩ = some (.slice A1_0 l1_0.length c1_0) := (blk_cell BK143.out 0).trans rfl; have hcz8_1 : w5.cell? ⟨gb143, 1, none⟩ = some (.int .i64 a1_1) := (blk_cell BK143.out 1).trans rfl; have hcz8_2 : w5.cell? ⟨gb143, 2, none⟩ = some (.int .i64 a1_2) := (blk_cell BK143.out 2).trans rfl; have hcz8_3 : w5.cell? ⟨gb143, 3, none⟩ = some (.int .i64 a1_3) := (blk_cell BK143.out 3).trans rfl; have hcz8_4 : w5.cell? ⟨gb143, 4, none⟩ = some (.int .i64 a1_4) := (blk_cell BK143.out 4).trans rfl; have hcz8_5 : w5.cell? ⟨gb143, 5, none⟩ = some (.int .i64 a1_5) := (blk_cell BK143.out 5).trans rfl; have hcz8_6 : w5.cell? ⟨gb143, 6, none⟩ = some (.int .i64 a1_6) := (blk_cell BK143.out 6).trans rfl; have hcz8_7 : w5.cell? ⟨gb143, 7, none⟩ = some (.int .i64 a1_7) := (blk_cell BK143.out 7).trans rfl; have hcz8_8 : w5.cell? ⟨gb143, 8, none⟩ = some (.int .i64 a1_8) := (blk_cell BK143.out 8).trans rfl; have hcz8_9 : w5.cell? ⟨gb143, 9, none⟩ = some (.int .i64 a1_9) := (blk_cell BK143.out 9).trans rfl; have hcz8_10 : w5.cell? ⟨gb143, 10, none⟩ = some (.int .i64 a1_10) := (blk_cell BK143.out 10).trans rfl; have hcz8_11 : w5.cell? ⟨gb143, 11, none⟩ = some (.int .u64 a1_11) := (blk_cell BK143.out 11).trans rfl; have hfz8_0 := blk_frozen BK143.out 0; have hfz8_1 := blk_frozen BK143.out 1; have hfz8_2 := blk_frozen BK143.out 2; have hfz8_3 := blk_frozen BK143.out 3; have hfz8_4 := blk_frozen BK143.out 4; have hfz8_5 := blk_frozen BK143.out 5; have hfz8_6 := blk_frozen BK143.out 6; have hfz8_7 := blk_frozen BK143.out 7; have hfz8_8 := blk_frozen BK143.out 8; have hfz8_9 := blk_frozen BK143.out 9; have hfz8_10 := blk_frozen BK143.out 10; have hfz8_11 := blk_frozen BK143.out 11))
    repeat (go_quiet (first | ((with_reducible refine gate_dst (N := 2) rfl ?_); refine box_event ?hg (N := 2) ?hd (cs := #[.slice A0_0 l0_0.length c0_0, .int .i64 a0_1, .int .i64 a0_2, .int .i64 a0_3, .int .i64 a0_4, .int .i64 a0_5, .int .i64 a0_6, .int .i64 a0_7, .int .i64 a0_8, .int .i64 a0_9, .int .i64 a0_10, .int .u64 a0_11]) (t := 25) ?hr ?_; (case hd => rfl); (case hg => rfl); (case hr => first | (go_simp; done) | (go_simp; rfl)); intro gb142 hg w4 hbox hb; have n0_ := Aside0.mk (below_step (by repeat (first | (with_reducible first | exact HB.out | apply below_alloc | apply pw_below_drewN | apply below_drew1) | exact HB.out)) hb); have n1_ := Aside0.mk (hbox); have n2_ := Aside0.mk ((by rw [hg]; exact (below_size (by repeat (first | (with_reducible first | exact HB.out | apply below_alloc | apply pw_below_drewN | apply below_drew1) | exact HB.out))) : w.heap.size ≤ gb142)); have n3_ := Aside0.mk ((by rw [hg]; exact (below_size (by repeat (first | (with_reducible first | exact HB.out | apply below_alloc | apply pw_below_drewN | apply below_drew1) | exact HB.out))) : w.heap.size ≤ gb142)); clear HB; have HB := n0_; have BK142 := n1_; have GW142 := n2_; have GE142 := n3_; clear n0_ n1_ n2_ n3_; clear hb hbox hg) | ((with_reducible refine gate_dst (N := 3) rfl ?_); refine box_event ?hg (N := 3) ?hd (cs := #[.slice A1_0 l1_0.length c1_0, .int .i64 a1_1, .int .i64 a1_2, .int .i64 a1_3, .int .i64 a1_4, .int .i64 a1_5, .int .i64 a1_6, .int .i64 a1_7, .int .i64 a1_8, .int .i64 a1_9, .int .i64 a1_10, .int .u64 a1_11]) (t := 25) ?hr ?_; (case hd => rfl); (case hg => rfl); (case hr => first | (go_simp; done) | (go_simp; rfl)); intro gb143 hg w5 hbox hb; have n0_ := Aside0.mk (blk_below (g := gb142) (o := .cells #[.slice A0_0 l0_0.length c0_0, .int .i64 a0_1, .int .i64 a0_2, .int .i64 a0_3, .int .i64 a0_4, .int .i64 a0_5, .int .i64 a0_6, .int .i64 a0_7, .int .i64 a0_8, .int .i64 a0_9, .int .i64 a0_10, .int .u64 a0_11] 25 (0, 0)) (by (with_reducible repeat (first | refine blk_drewN ?_ _ | refine blk_drew ?_ | refine blk_alloc ?_ _)); exact BK142.out) hb); have n1_ := Aside0.mk (below_step (by repeat (first | (with_reducible first | exact HB.out | apply below_alloc | apply pw_below_drewN | apply below_drew1 | refine below_set ?_ GE142.out) | exact HB.out)) hb); have n2_ := Aside0.mk (hbox); have n3_ := Aside0.mk ((by rw [hg]; exact (below_size (by repeat (first | (with_reducible first | exact HB.out | apply below_alloc | apply pw_below_drewN | apply below_drew1 | refine below_set ?_ GE142.out) | exact HB.out))) : w.heap.size ≤ gb143)); have n4_ := Aside0.mk ((by rw [hg]; exact (below_size (by repeat (first | (with_reducible first | exact HB.out | apply below_alloc | apply pw_below_drewN | apply below_drew1 | refine below_set ?_ GE142.out) | exact HB.out))) : w.heap.size ≤ gb143)); have n5_ := Aside0.mk ((by rw [hg]; exact Nat.ne_of_lt (blk_lt (g := gb142) (o := .cells #[.slice A0_0 l0_0.length c0_0, .int .i64 a0_1, .int .i64 a0_2, .int .i64 a0_3, .int .i64 a0_4, .int .i64 a0_5, .int .i64 a0_6, .int .i64 a0_7, .int .i64 a0_8, .int .i64 a0_9, .int .i64 a0_10, .int .u64 a0_11] 25 (0, 0)) (by (with_reducible repeat (first | refine blk_drewN ?_ _ | refine blk_drew ?_ | refine blk_alloc ?_ _)); exact BK142.out)) : gb142 ≠ gb143)); have n6_ := Aside0.mk ((by rw [hg]; exact Nat.ne_of_gt (blk_lt (g := gb142) (o := .cells #[.slice A0_0 l0_0.length c0_0, .int .i64 a0_1, .int .i64 a0_2, .int .i64 a0_3, .int .i64 a0_4, .int .i64 a0_5, .int .i64 a0_6, .int .i64 a0_7, .int .i64 a0_8, .int .i64 a0_9, .int .i64 a0_10, .int .u64 a0_11] 25 (0, 0)) (by (with_reducible repeat (first | refine blk_drewN ?_ _ | refine blk_drew ?_ | refine blk_alloc ?_ _)); exact BK142.out)) : gb143 ≠ gb142)); clear BK142; clear HB; have BK142 := n0_; have HB := n1_; have BK143 := n2_; have GW143 := n3_; have GE143 := n4_; have NB142_143 := n5_; have NB143_142 := n6_; clear n0_ n1_ n2_ n3_ n4_ n5_ n6_; clear hb hbox hg; have hnb6 := NB142_143.out; have hnc6 := NB143_142.out; have hcz7_0 : w5.cell? ⟨gb142, 0, none⟩ = some (.slice A0_0 l0_0.length c0_0) := (blk_cell BK142.out 0).trans rfl; have hcz7_1 : w5.cell? ⟨gb142, 1, none⟩ = some (.int .i64 a0_1) := (blk_cell BK142.out 1).trans rfl; have hcz7_2 : w5.cell? ⟨gb142, 2, none⟩ = some (.int .i64 a0_2) := (blk_cell BK142.out 2).trans rfl; have hcz7_3 : w5.cell? ⟨gb142, 3, none⟩ = some (.int .i64 a0_3) := (blk_cell BK142.out 3).trans rfl; have hcz7_4 : w5.cell? ⟨gb142, 4, none⟩ = some (.int .i64 a0_4) := (blk_cell BK142.out 4).trans rfl; have hcz7_5 : w5.cell? ⟨gb142, 5, none⟩ = some (.int .i64 a0_5) := (blk_cell BK142.out 5).trans rfl; have hcz7_6 : w5.cell? ⟨gb142, 6, none⟩ = some (.int .i64 a0_6) := (blk_cell BK142.out 6).trans rfl; have hcz7_7 : w5.cell? ⟨gb142, 7, none⟩ = some (.int .i64 a0_7) := (blk_cell BK142.out 7).trans rfl; have hcz7_8 : w5.cell? ⟨gb142, 8, none⟩ = some (.int .i64 a0_8) := (blk_cell BK142.out 8).trans rfl; have hcz7_9 : w5.cell? ⟨gb142, 9, none⟩ = some (.int .i64 a0_9) := (blk_cell BK142.out 9).trans rfl; have hcz7_10 : w5.cell? ⟨gb142, 10, none⟩ = some (.int .i64 a0_10) := (blk_cell BK142.out 10).trans rfl; have hcz7_11 : w5.cell? ⟨gb142, 11, none⟩ = some (.int .u64 a0_11) := (blk_cell BK142.out 11).trans rfl; have hfz7_0 := blk_frozen BK142.out 0; have hfz7_1 := blk_frozen BK142.out 1; have hfz7_2 := blk_frozen BK142.out 2; have hfz7_3 := blk_frozen BK142.out 3; have hfz7_4 := blk_frozen BK142.out 4; have hfz7_5 := blk_frozen BK142.out 5; have hfz7_6 := blk_frozen BK142.out 6; have hfz7_7 := blk_frozen BK142.out 7; have hfz7_8 := blk_frozen BK142.out 8; have hfz7_9 := blk_frozen BK142.out 9; have hfz7_10 := blk_frozen BK142.out 10; have hfz7_11 := blk_frozen BK142.out 11; have hcz8_0 : w5.cell? ⟨gb143, 0, none⟩ = some (.slice A1_0 l1_0.length c1_0) := (blk_cell BK143.out 0).trans rfl; have hcz8_1 : w5.cell? ⟨gb143, 1, none⟩ = some (.int .i64 a1_1) := (blk_cell BK143.out 1).trans rfl; have hcz8_2 : w5.cell? ⟨gb143, 2, none⟩ = some (.int .i64 a1_2) := (blk_cell BK143.out 2).trans rfl; have hcz8_3 : w5.cell? ⟨gb143, 3, none⟩ = some (.int .i64 a1_3) := (blk_cell BK143.out 3).trans rfl; have hcz8_4 : w5.cell? ⟨gb143, 4, none⟩ = some (.int .i64 a1_4) := (blk_cell BK143.out 4).trans rfl; have hcz8_5 : w5.cell? ⟨gb143, 5, none⟩ = some (.int .i64 a1_5) := (blk_cell BK143.out 5).trans rfl; have hcz8_6 : w5.cell? ⟨gb143, 6, none⟩ = some (.int .i64 a1_6) := (blk_cell BK143.out 6).trans rfl; have hcz8_7 : w5.cell? ⟨gb143, 7, none⟩ = some (.int .i64 a1_7) := (blk_cell BK143.out 7).trans rfl; have hcz8_8 : w5.cell? ⟨gb143, 8, none⟩ = some (.int .i64 a1_8) := (blk_cell BK143.out 8).trans rfl; have hcz8_9 : w5.cell? ⟨gb143, 9, none⟩ = some (.int .i64 a1_9) := (blk_cell BK143.out 9).trans rfl; have hcz8_10 : w5.cell? ⟨gb143, 10, none⟩ = some (.int .i64 a1_10) := (blk_cell BK143.out 10).trans rfl; have hcz8_11 : w5.cell? ⟨gb143, 11, none⟩ = some (.int .u64 a1_11) := (blk_cell BK143.out 11).trans rfl; have hfz8_0 := blk_frozen BK143.out 0; have hfz8_1 := blk_frozen BK143.out 1; have hfz8_2 := blk_frozen BK143.out 2; have hfz8_3 := blk_frozen BK143.out 3; have hfz8_4 := blk_frozen BK143.out 4; have hfz8_5 := blk_frozen BK143.out 5; have hfz8_6 := blk_frozen BK143.out 6; have hfz8_7 := blk_frozen BK143.out 7; have hfz8_8 := blk_frozen BK143.out 8; have hfz8_9 := blk_frozen BK143.out 9; have hfz8_10 := blk_frozen BK143.out 10; have hfz8_11 := blk_frozen BK143.out 11)); try go_wp2_with (first | ((with_reducible refine gate_dst (N := 2) rfl ?_); refine box_event ?hg (N := 2) ?hd (cs := #[.slice A0_0 l0_0.length c0_0, .int .i64 a0_1, .int .i64 a0_2, .int .i64 a0_3, .int .i64 a0_4, .int .i64 a0_5, .int .i64 a0_6, .int .i64 a0_7, .int .i64 a0_8, .int .i64 a0_9, .int .i64 a0_10, .int .u64 a0_11]) (t := 25) ?hr ?_; (case hd => rfl); (case hg => rfl); (case hr => first | (go_simp; done) | (go_simp; rfl)); intro gb142 hg w4 hbox hb; have n0_ := Aside0.mk (below_step (by repeat (first | (with_reducible first | exact HB.out | apply below_alloc | apply pw_below_drewN | apply below_drew1) | exact HB.out)) hb); have n1_ := Aside0.mk (hbox); have n2_ := Aside0.mk ((by rw [hg]; exact (below_size (by repeat (first | (with_reducible first | exact HB.out | apply below_alloc | apply pw_below_drewN | apply below_drew1) | exact HB.out))) : w.heap.size ≤ gb142)); have n3_ := Aside0.mk ((by rw [hg]; exact (below_size (by repeat (first | (with_reducible first | exact HB.out | apply below_alloc | apply pw_below_drewN | apply below_drew1) | exact HB.out))) : w.heap.size ≤ gb142)); clear HB; have HB := n0_; have BK142 := n1_; have GW142 := n2_; have GE142 := n3_; clear n0_ n1_ n2_ n3_; clear hb hbox hg) | ((with_reducible refine gate_dst (N := 3) rfl ?_); refine box_event ?hg (N := 3) ?hd (cs := #[.slice A1_0 l1_0.length c1_0, .int .i64 a1_1, .int .i64 a1_2, .int .i64 a1_3, .int .i64 a1_4, .int .i64 a1_5, .int .i64 a1_6, .int .i64 a1_7, .int .i64 a1_8, .int .i64 a1_9, .int .i64 a1_10, .int .u64 a1_11]) (t := 25) ?hr ?_; (case hd => rfl); (case hg => rfl); (case hr => first | (go_simp; done) | (go_simp; rfl)); intro gb143 hg w5 hbox hb; have n0_ := Aside0.mk (blk_below (g := gb142) (o := .cells #[.slice A0_0 l0_0.length c0_0, .int .i64 a0_1, .int .i64 a0_2, .int .i64 a0_3, .int .i64 a0_4, .int .i64 a0_5, .int .i64 a0_6, .int .i64 a0_7, .int .i64 a0_8, .int .i64 a0_9, .int .i64 a0_10, .int .u64 a0_11] 25 (0, 0)) (by (with_reducible repeat (first | refine blk_drewN ?_ _ | refine blk_drew ?_ | refine blk_alloc ?_ _)); exact BK142.out) hb); have n1_ := Aside0.mk (below_step (by repeat (first | (with_reducible first | exact HB.out | apply below_alloc | apply pw_below_drewN | apply below_drew1 | refine below_set ?_ GE142.out) | exact HB.out)) hb); have n2_ := Aside0.mk (hbox); have n3_ := Aside0.mk ((by rw [hg]; exact (below_size (by repeat (first | (with_reducible first | exact HB.out | apply below_alloc | apply pw_below_drewN | apply below_drew1 | refine below_set ?_ GE142.out) | exact HB.out))) : w.heap.size ≤ gb143)); have n4_ := Aside0.mk ((by rw [hg]; exact (below_size (by repeat (first | (with_reducible first | exact HB.out | apply below_alloc | apply pw_below_drewN | apply below_drew1 | refine below_set ?_ GE142.out) | exact HB.out))) : w.heap.size ≤ gb143)); have n5_ := Aside0.mk ((by rw [hg]; exact Nat.ne_of_lt (blk_lt (g := gb142) (o := .cells #[.slice A0_0 l0_0.length c0_0, .int .i64 a0_1, .int .i64 a0_2, .int .i64 a0_3, .int .i64 a0_4, .int .i64 a0_5, .int .i64 a0_6, .int .i64 a0_7, .int .i64 a0_8, .int .i64 a0_9, .int .i64 a0_10, .int .u64 a0_11] 25 (0, 0)) (by (with_reducible repeat (first | refine blk_drewN ?_ _ | refine blk_drew ?_ | refine blk_alloc ?_ _)); exact BK142.out)) : gb142 ≠ gb143)); have n6_ := Aside0.mk ((by rw [hg]; exact Nat.ne_of_gt (blk_lt (g := gb142) (o := .cells #[.slice A0_0 l0_0.length c0_0, .int .i64 a0_1, .int .i64 a0_2, .int .i64 a0_3, .int .i64 a0_4, .int .i64 a0_5, .int .i64 a0_6, .int .i64 a0_7, .int .i64 a0_8, .int .i64 a0_9, .int .i64 a0_10, .int .u64 a0_11] 25 (0, 0)) (by (with_reducible repeat (first | refine blk_drewN ?_ _ | refine blk_drew ?_ | refine blk_alloc ?_ _)); exact BK142.out)) : gb143 ≠ gb142)); clear BK142; clear HB; have BK142 := n0_; have HB := n1_; have BK143 := n2_; have GW143 := n3_; have GE143 := n4_; have NB142_143 := n5_; have NB143_142 := n6_; clear n0_ n1_ n2_ n3_ n4_ n5_ n6_; clear hb hbox hg; have hnb6 := NB142_143.out; have hnc6 := NB143_142.out; have hcz7_0 : w5.cell? ⟨gb142, 0, none⟩ = some (.slice A0_0 l0_0.length c0_0) := (blk_cell BK142.out 0).trans rfl; have hcz7_1 : w5.cell? ⟨gb142, 1, none⟩ = some (.int .i64 a0_1) := (blk_cell BK142.out 1).trans rfl; have hcz7_2 : w5.cell? ⟨gb142, 2, none⟩ = some (.int .i64 a0_2) := (blk_cell BK142.out 2).trans rfl; have hcz7_3 : w5.cell? ⟨gb142, 3, none⟩ = some (.int .i64 a0_3) := (blk_cell BK142.out 3).trans rfl; have hcz7_4 : w5.cell? ⟨gb142, 4, none⟩ = some (.int .i64 a0_4) := (blk_cell BK142.out 4).trans rfl; have hcz7_5 : w5.cell? ⟨gb142, 5, none⟩ = some (.int .i64 a0_5) := (blk_cell BK142.out 5).trans rfl; have hcz7_6 : w5.cell? ⟨gb142, 6, none⟩ = some (.int .i64 a0_6) := (blk_cell BK142.out 6).trans rfl; have hcz7_7 : w5.cell? ⟨gb142, 7, none⟩ = some (.int .i64 a0_7) := (blk_cell BK142.out 7).trans rfl; have hcz7_8 : w5.cell? ⟨gb142, 8, none⟩ = some (.int .i64 a0_8) := (blk_cell BK142.out 8).trans rfl; have hcz7_9 : w5.cell? ⟨gb142, 9, none⟩ = some (.int .i64 a0_9) := (blk_cell BK142.out 9).trans rfl; have hcz7_10 : w5.cell? ⟨gb142, 10, none⟩ = some (.int .i64 a0_10) := (blk_cell BK142.out 10).trans rfl; have hcz7_11 : w5.cell? ⟨gb142, 11, none⟩ = some (.int .u64 a0_11) := (blk_cell BK142.out 11).trans rfl; have hfz7_0 := blk_frozen BK142.out 0; have hfz7_1 := blk_frozen BK142.out 1; have hfz7_2 := blk_frozen BK142.out 2; have hfz7_3 := blk_frozen BK142.out 3; have hfz7_4 := blk_frozen BK142.out 4; have hfz7_5 := blk_frozen BK142.out 5; have hfz7_6 := blk_frozen BK142.out 6; have hfz7_7 := blk_frozen BK142.out 7; have hfz7_8 := blk_frozen BK142.out 8; have hfz7_9 := blk_frozen BK142.out 9; have hfz7_10 := blk_frozen BK142.out 10; have hfz7_11 := blk_frozen BK142.out 11; have hcz8_0 : w5.cell? ⟨gb143, 0, none⟩ = some (.slice A1_0 l1_0.length c1_0) := (blk_cell BK143.out 0).trans rfl; have hcz8_1 : w5.cell? ⟨gb143, 1, none⟩ = some (.int .i64 a1_1) := (blk_cell BK143.out 1).trans rfl; have hcz8_2 : w5.cell? ⟨gb143, 2, none⟩ = some (.int .i64 a1_2) := (blk_cell BK143.out 2).trans rfl; have hcz8_3 : w5.cell? ⟨gb143, 3, none⟩ = some (.int .i64 a1_3) := (blk_cell BK143.out 3).trans rfl; have hcz8_4 : w5.cell? ⟨gb143, 4, none⟩ = some (.int .i64 a1_4) := (blk_cell BK143.out 4).trans rfl; have hcz8_5 : w5.cell? ⟨gb143, 5, none⟩ = some (.int .i64 a1_5) := (blk_cell BK143.out 5).trans rfl; have hcz8_6 : w5.cell? ⟨gb143, 6, none⟩ = some (.int .i64 a1_6) := (blk_cell BK143.out 6).trans rfl; have hcz8_7 : w5.cell? ⟨gb143, 7, none⟩ = some (.int .i64 a1_7) := (blk_cell BK143.out 7).trans rfl; have hcz8_8 : w5.cell? ⟨gb143, 8, none⟩ = some (.int .i64 a1_8) := (blk_cell BK143.out 8).trans rfl; have hcz8_9 : w5.cell? ⟨gb143, 9, none⟩ = some (.int .i64 a1_9) := (blk_cell BK143.out 9).trans rfl; have hcz8_10 : w5.cell? ⟨gb143, 10, none⟩ = some (.int .i64 a1_10) := (blk_cell BK143.out 10).trans rfl; have hcz8_11 : w5.cell? ⟨gb143, 11, none⟩ = some (.int .u64 a1_11) := (blk_cell BK143.out 11).trans rfl; have hfz8_0 := blk_frozen BK143.out 0; have hfz8_1 := blk_frozen BK143.out 1; have hfz8_2 := blk_frozen BK143.out 2; have hfz8_3 := blk_frozen BK143.out 3; have hfz8_4 := blk_frozen BK143.out 4; have hfz8_5 := blk_frozen BK143.out 5; have hfz8_6 := blk_frozen BK143.out 6; have hfz8_7 := blk_frozen BK143.out 7; have hfz8_8 := blk_frozen BK143.out 8; have hfz8_9 := blk_frozen BK143.out 9; have hfz8_10 := blk_frozen BK143.out 10; have hfz8_11 := blk_frozen BK143.out 11)))
    go_loopg [5] k (fun kq v5 w' => ∃ (x5_1 : Int), v5 = .int .i64 x5_1 ∧ Aside0 (muleteerref07_Same.l0 kq x5_1 l0_0 a0_1 a0_2 a0_3 a0_4 a0_5 a0_6 a0_7 a0_8 a0_9 a0_10 a0_11 l1_0 a1_1 a1_2 a1_3 a1_4 a1_5 a1_6 a1_7 a1_8 a1_9 a1_10 a1_11 = some r) ∧ Aside0 (kq ≤ k) ∧ Aside0 (w'.heap[gb142]? = some (.cells #[(.slice A0_0 l0_0.length c0_0), .int .i64 a0_1, .int .i64 a0_2, .int .i64 a0_3, .int .i64 a0_4, .int .i64 a0_5, .int .i64 a0_6, .int .i64 a0_7, .int .i64 a0_8, .int .i64 a0_9, .int .i64 a0_10, .int .u64 a0_11] 25 (0, 0))) ∧ Aside0 (w'.heap[gb143]? = some (.cells #[(.slice A1_0 l1_0.length c1_0), .int .i64 a1_1, .int .i64 a1_2, .int .i64 a1_3, .int .i64 a1_4, .int .i64 a1_5, .int .i64 a1_6, .int .i64 a1_7, .int .i64 a1_8, .int .i64 a1_9, .int .i64 a1_10, .int .u64 a1_11] 25 (0, 0))) ∧ Aside0 (Below w.heap.size w w'))
    case atStart => exact ⟨(0), (by first | rfl | (simp; done) | (simp [*]; done)), H', ⟨Nat.le_refl _⟩, ⟨by (with_reducible repeat (first | refine blk_drewN ?_ _ | refine blk_drew ?_ | refine blk_alloc ?_ _)); exact BK142.out⟩, ⟨by (with_reducible repeat (first | refine blk_drewN ?_ _ | refine blk_drew ?_ | refine blk_alloc ?_ _)); exact BK143.out⟩, ⟨by repeat (first | (with_reducible first | exact HB.out | apply below_alloc | apply pw_below_drewN | apply below_drew1 | refine below_set ?_ GE142.out | refine below_set ?_ GE143.out) | exact HB.out)⟩⟩
    case round =>
      clear H'
      obtain ⟨x5_1, rfl, HA, HK1, BK142, BK143, HB⟩ := hrel
      cases gk with
      | zero => exact absurd HA.out (by simp [muleteerref07_Same.l0])
      | succ k1 =>
        have H := HA.out
        clear HA
        simp only [muleteerref07_Same.l0] at H
        by_cases c9 : x5_1 < (l0_0.length : Int)
        · rw [if_pos c9] at H
          have c9b0 : decide (x5_1 < (l0_0.length : Int)) = true := decide_eq_true c9
          clear c9
          by_cases c10 : 0 ≤ x5_1
          · rw [if_pos c10] at H
            have c10b0 : decide (0 ≤ x5_1) = true := decide_eq_true c10
            clear c10
            by_cases c11 : x5_1 < (l1_0.length : Int)
            · rw [if_pos c11] at H
              have c11b0 : decide (x5_1 < (l1_0.length : Int)) = true := decide_eq_true c11
              clear c11
              obtain ⟨bq12, hbq12⟩ : ∃ b_ : Bool, b_ = (rdOf false l0_0 x5_1) := ⟨_, rfl⟩
              replace H : (if bq12 = true then (if rdOf false l1_0 x5_1 = true then (muleteerref07_Same.l0 k1 (wrap64 (x5_1 + 1)) l0_0 a0_1 a0_2 a0_3 a0_4 a0_5 a0_6 a0_7 a0_8 a0_9 a0_10 a0_11 l1_0 a1_1 a1_2 a1_3 a1_4 a1_5 a1_6 a1_7 a1_8 a1_9 a1_10 a1_11) else (some false)) else (if rdOf false l1_0 x5_1 = true then (some false) else (muleteerref07_Same.l0 k1 (wrap64 (x5_1 + 1)) l0_0 a0_1 a0_2 a0_3 a0_4 a0_5 a0_6 a0_7 a0_8 a0_9 a0_10 a0_11 l1_0 a1_1 a1_2 a1_3 a1_4 a1_5 a1_6 a1_7 a1_8 a1_9 a1_10 a1_11))) = some r := by rw [← hbq12] at H; exact H
              have Nbq12 := Aside0.mk hbq12
              clear hbq12
              by_cases c13 : bq12 = true
              · subst c13
                have H1 : (if rdOf false l1_0 x5_1 = true then (muleteerref07_Same.l0 k1 (wrap64 (x5_1 + 1)) l0_0 a0_1 a0_2 a0_3 a0_4 a0_5 a0_6 a0_7 a0_8 a0_9 a0_10 a0_11 l1_0 a1_1 a1_2 a1_3 a1_4 a1_5 a1_6 a1_7 a1_8 a1_9 a1_10 a1_11) else (some false)) = some r := by rw [if_pos rfl] at H; exact H
                clear H
                have H := H1
                clear H1
                obtain ⟨bq14, hbq14⟩ : ∃ b_ : Bool, b_ = (rdOf false l1_0 x5_1) := ⟨_, rfl⟩
                replace H : (if bq14 = true then (muleteerref07_Same.l0 k1 (wrap64 (x5_1 + 1)) l0_0 a0_1 a0_2 a0_3 a0_4 a0_5 a0_6 a0_7 a0_8 a0_9 a0_10 a0_11 l1_0 a1_1 a1_2 a1_3 a1_4 a1_5 a1_6 a1_7 a1_8 a1_9 a1_10 a1_11) else (some false)) = some r := by rw [← hbq14] at H; exact H
                have Nbq14 := Aside0.mk hbq14
                clear hbq14
                by_cases c15 : bq14 = true
                · subst c15
                  have H1 : (muleteerref07_Same.l0 k1 (wrap64 (x5_1 + 1)) l0_0 a0_1 a0_2 a0_3 a0_4 a0_5 a0_6 a0_7 a0_8 a0_9 a0_10 a0_11 l1_0 a1_1 a1_2 a1_3 a1_4 a1_5 a1_6 a1_7 a1_8 a1_9 a1_10 a1_11) = some r := by rw [if_pos rfl] at H; exact H
                  clear H
                  have H := H1
                  clear H1
                  have H' := Aside0.mk H
                  clear H
                  have hnb16 := NB142_143.out
                  have hnc16 := NB143_142.out
                  have hcz17_0 : wr.cell? ⟨gb142, 0, none⟩ = some (.slice A0_0 l0_0.length c0_0) := (blk_cell BK142.out 0).trans rfl
                  have hcz17_1 : wr.cell? ⟨gb142, 1, none⟩ = some (.int .i64 a0_1) := (blk_cell BK142.out 1).trans rfl
                  have hcz17_2 : wr.cell? ⟨gb142, 2, none⟩ = some (.int .i64 a0_2) := (blk_cell BK142.out 2).trans rfl
                  have hcz17_3 : wr.cell? ⟨gb142, 3, none⟩ = some (.int .i64 a0_3) := (blk_cell BK142.out 3).trans rfl
                  have hcz17_4 : wr.cell? ⟨gb142, 4, none⟩ = some (.int .i64 a0_4) := (blk_cell BK142.out 4).trans rfl
                  have hcz17_5 : wr.cell? ⟨gb142, 5, none⟩ = some (.int .i64 a0_5) := (blk_cell BK142.out 5).trans rfl
                  have hcz17_6 : wr.cell? ⟨gb142, 6, none⟩ = some (.int .i64 a0_6) := (blk_cell BK142.out 6).trans rfl
                  have hcz17_7 : wr.cell? ⟨gb142, 7, none⟩ = some (.int .i64 a0_7) := (blk_cell BK142.out 7).trans rfl
                  have hcz17_8 : wr.cell? ⟨gb142, 8, none⟩ = some (.int .i64 a0_8) := (blk_cell BK142.out 8).trans rfl
                  have hcz17_9 : wr.cell? ⟨gb142, 9, none⟩ = some (.int .i64 a0_9) := (blk_cell BK142.out 9).trans rfl
                  have hcz17_10 : wr.cell? ⟨gb142, 10, none⟩ = some (.int .i64 a0_10) := (blk_cell BK142.out 10).trans rfl
                  have hcz17_11 : wr.cell? ⟨gb142, 11, none⟩ = some (.int .u64 a0_11) := (blk_cell BK142.out 11).trans rfl
                  have hfz17_0 := blk_frozen BK142.out 0
                  have hfz17_1 := blk_frozen BK142.out 1
                  have hfz17_2 := blk_frozen BK142.out 2
                  have hfz17_3 := blk_frozen BK142.out 3
                  have hfz17_4 := blk_frozen BK142.out 4
                  have hfz17_5 := blk_frozen BK142.out 5
                  have hfz17_6 := blk_frozen BK142.out 6
                  have hfz17_7 := blk_frozen BK142.out 7
                  have hfz17_8 := blk_frozen BK142.out 8
                  have hfz17_9 := blk_frozen BK142.out 9
                  have hfz17_10 := blk_frozen BK142.out 10
                  have hfz17_11 := blk_frozen BK142.out 11
                  have p144 : 0 ≤ (x5_1 : Int) := of_decide_eq_true (by first | (with_reducible assumption) | assumption)
                  have q144 : x5_1 < (l0_0.length : Int) := of_decide_eq_true (by first | (with_reducible assumption) | assumption)
                  obtain ⟨ad144, e144, hx144_0⟩ := Kd.at_bool HR0_0.out x5_1 p144 q144
                  (try rw [← Nbq12.out] at hx144_0)
                  (try rw [← Nbq14.out] at hx144_0)
                  cases e144
                  replace hx144_0 := (HB.out.cell (World.block_lt_of_cell? w _ hx144_0)).trans hx144_0
                  replace p144 := eq_true p144
                  replace q144 := eq_true q144
                  have hcz18_0 : wr.cell? ⟨gb143, 0, none⟩ = some (.slice A1_0 l1_0.length c1_0) := (blk_cell BK143.out 0).trans rfl
                  have hcz18_1 : wr.cell? ⟨gb143, 1, none⟩ = some (.int .i64 a1_1) := (blk_cell BK143.out 1).trans rfl
                  have hcz18_2 : wr.cell? ⟨gb143, 2, none⟩ = some (.int .i64 a1_2) := (blk_cell BK143.out 2).trans rfl
                  have hcz18_3 : wr.cell? ⟨gb143, 3, none⟩ = some (.int .i64 a1_3) := (blk_cell BK143.out 3).trans rfl
                  have hcz18_4 : wr.cell? ⟨gb143, 4, none⟩ = some (.int .i64 a1_4) := (blk_cell BK143.out 4).trans rfl
                  have hcz18_5 : wr.cell? ⟨gb143, 5, none⟩ = some (.int .i64 a1_5) := (blk_cell BK143.out 5).trans rfl
                  have hcz18_6 : wr.cell? ⟨gb143, 6, none⟩ = some (.int .i64 a1_6) := (blk_cell BK143.out 6).trans rfl
                  have hcz18_7 : wr.cell? ⟨gb143, 7, none⟩ = some (.int .i64 a1_7) := (blk_cell BK143.out 7).trans rfl
                  have hcz18_8 : wr.cell? ⟨gb143, 8, none⟩ = some (.int .i64 a1_8) := (blk_cell BK143.out 8).trans rfl
                  have hcz18_9 : wr.cell? ⟨gb143, 9, none⟩ = some (.int .i64 a1_9) := (blk_cell BK143.out 9).trans rfl
                  have hcz18_10 : wr.cell? ⟨gb143, 10, none⟩ = some (.int .i64 a1_10) := (blk_cell BK143.out 10).trans rfl
                  have hcz18_11 : wr.cell? ⟨gb143, 11, none⟩ = some (.int .u64 a1_11) := (blk_cell BK143.out 11).trans rfl
                  have hfz18_0 := blk_frozen BK143.out 0
                  have hfz18_1 := blk_frozen BK143.out 1
                  have hfz18_2 := blk_frozen BK143.out 2
                  have hfz18_3 := blk_frozen BK143.out 3
                  have hfz18_4 := blk_frozen BK143.out 4
                  have hfz18_5 := blk_frozen BK143.out 5
                  have hfz18_6 := blk_frozen BK143.out 6
                  have hfz18_7 := blk_frozen BK143.out 7
                  have hfz18_8 := blk_frozen BK143.out 8
                  have hfz18_9 := blk_frozen BK143.out 9
                  have hfz18_10 := blk_frozen BK143.out 10
                  have hfz18_11 := blk_frozen BK143.out 11
                  have p145 : 0 ≤ (x5_1 : Int) := of_decide_eq_true (by first | (with_reducible assumption) | assumption)
                  have q145 : x5_1 < (l1_0.length : Int) := of_decide_eq_true (by first | (with_reducible assumption) | assumption)
                  obtain ⟨ad145, e145, hx145_0⟩ := Kd.at_bool HR1_0.out x5_1 p145 q145
                  (try rw [← Nbq12.out] at hx145_0)
                  (try rw [← Nbq14.out] at hx145_0)
                  cases e145
                  replace hx145_0 := (HB.out.cell (World.block_lt_of_cell? w _ hx145_0)).trans hx145_0
                  replace p145 := eq_true p145
                  replace q145 := eq_true q145
                  go_wp2
                  repeat (go_quiet (fail); try go_wp2)
                  go_roundg k1
                  case measure => have := HK1.out; omega
                  case rel => exact ⟨(wrap64 (x5_1 + 1)), (by first | rfl | (simp; done) | (simp [*]; done)), H', ⟨by have := HK1.out; omega⟩, ⟨by (with_reducible repeat (first | refine blk_drewN ?_ _ | refine blk_drew ?_ | refine blk_alloc ?_ _)); exact BK142.out⟩, ⟨by (with_reducible repeat (first | refine blk_drewN ?_ _ | refine blk_drew ?_ | refine blk_alloc ?_ _)); exact BK143.out⟩, ⟨by repeat (first | (with_reducible first | exact HB.out | apply below_alloc | apply pw_below_drewN | apply below_drew1 | refine below_set ?_ GE142.out | refine below_set ?_ GE143.out) | exact HB.out)⟩⟩
                · replace c15 := Bool.eq_false_iff.mpr c15
                  subst c15
                  have H1 : (some false) = some r := by rw [if_neg (show ¬ (false = true) by decide)] at H; exact H
                  clear H
                  have H := H1
                  clear H1
                  obtain rfl := Option.some.inj H
                  have hnb19 := NB142_143.out
                  have hnc19 := NB143_142.out
                  have hcz20_0 : wr.cell? ⟨gb142, 0, none⟩ = some (.slice A0_0 l0_0.length c0_0) := (blk_cell BK142.out 0).trans rfl
                  have hcz20_1 : wr.cell? ⟨gb142, 1, none⟩ = some (.int .i64 a0_1) := (blk_cell BK142.out 1).trans rfl
                  have hcz20_2 : wr.cell? ⟨gb142, 2, none⟩ = some (.int .i64 a0_2) := (blk_cell BK142.out 2).trans rfl
                  have hcz20_3 : wr.cell? ⟨gb142, 3, none⟩ = some (.int .i64 a0_3) := (blk_cell BK142.out 3).trans rfl
                  have hcz20_4 : wr.cell? ⟨gb142, 4, none⟩ = some (.int .i64 a0_4) := (blk_cell BK142.out 4).trans rfl
                  have hcz20_5 : wr.cell? ⟨gb142, 5, none⟩ = some (.int .i64 a0_5) := (blk_cell BK142.out 5).trans rfl
                  have hcz20_6 : wr.cell? ⟨gb142, 6, none⟩ = some (.int .i64 a0_6) := (blk_cell BK142.out 6).trans rfl
                  have hcz20_7 : wr.cell? ⟨gb142, 7, none⟩ = some (.int .i64 a0_7) := (blk_cell BK142.out 7).trans rfl
                  have hcz20_8 : wr.cell? ⟨gb142, 8, none⟩ = some (.int .i64 a0_8) := (blk_cell BK142.out 8).trans rfl
                  have hcz20_9 : wr.cell? ⟨gb142, 9, none⟩ = some (.int .i64 a0_9) := (blk_cell BK142.out 9).trans rfl
                  have hcz20_10 : wr.cell? ⟨gb142, 10, none⟩ = some (.int .i64 a0_10) := (blk_cell BK142.out 10).trans rfl
                  have hcz20_11 : wr.cell? ⟨gb142, 11, none⟩ = some (.int .u64 a0_11) := (blk_cell BK142.out 11).trans rfl
                  have hfz20_0 := blk_frozen BK142.out 0
                  have hfz20_1 := blk_frozen BK142.out 1
                  have hfz20_2 := blk_frozen BK142.out 2
                  have hfz20_3 := blk_frozen BK142.out 3
                  have hfz20_4 := blk_frozen BK142.out 4
                  have hfz20_5 := blk_frozen BK142.out 5
                  have hfz20_6 := blk_frozen BK142.out 6
                  have hfz20_7 := blk_frozen BK142.out 7
                  have hfz20_8 := blk_frozen BK142.out 8
                  have hfz20_9 := blk_frozen BK142.out 9
                  have hfz20_10 := blk_frozen BK142.out 10
                  have hfz20_11 := blk_frozen BK142.out 11
                  have p144 : 0 ≤ (x5_1 : Int) := of_decide_eq_true (by first | (with_reducible assumption) | assumption)
                  have q144 : x5_1 < (l0_0.length : Int) := of_decide_eq_true (by first | (with_reducible assumption) | assumption)
                  obtain ⟨ad144, e144, hx144_0⟩ := Kd.at_bool HR0_0.out x5_1 p144 q144
                  (try rw [← Nbq12.out] at hx144_0)
                  (try rw [← Nbq14.out] at hx144_0)
                  cases e144
                  replace hx144_0 := (HB.out.cell (World.block_lt_of_cell? w _ hx144_0)).trans hx144_0
                  replace p144 := eq_true p144
                  replace q144 := eq_true q144
                  have hcz21_0 : wr.cell? ⟨gb143, 0, none⟩ = some (.slice A1_0 l1_0.length c1_0) := (blk_cell BK143.out 0).trans rfl
                  have hcz21_1 : wr.cell? ⟨gb143, 1, none⟩ = some (.int .i64 a1_1) := (blk_cell BK143.out 1).trans rfl
                  have hcz21_2 : wr.cell? ⟨gb143, 2, none⟩ = some (.int .i64 a1_2) := (blk_cell BK143.out 2).trans rfl
                  have hcz21_3 : wr.cell? ⟨gb143, 3, none⟩ = some (.int .i64 a1_3) := (blk_cell BK143.out 3).trans rfl
                  have hcz21_4 : wr.cell? ⟨gb143, 4, none⟩ = some (.int .i64 a1_4) := (blk_cell BK143.out 4).trans rfl
                  have hcz21_5 : wr.cell? ⟨gb143, 5, none⟩ = some (.int .i64 a1_5) := (blk_cell BK143.out 5).trans rfl
                  have hcz21_6 : wr.cell? ⟨gb143, 6, none⟩ = some (.int .i64 a1_6) := (blk_cell BK143.out 6).trans rfl
                  have hcz21_7 : wr.cell? ⟨gb143, 7, none⟩ = some (.int .i64 a1_7) := (blk_cell BK143.out 7).trans rfl
                  have hcz21_8 : wr.cell? ⟨gb143, 8, none⟩ = some (.int .i64 a1_8) := (blk_cell BK143.out 8).trans rfl
                  have hcz21_9 : wr.cell? ⟨gb143, 9, none⟩ = some (.int .i64 a1_9) := (blk_cell BK143.out 9).trans rfl
                  have hcz21_10 : wr.cell? ⟨gb143, 10, none⟩ = some (.int .i64 a1_10) := (blk_cell BK143.out 10).trans rfl
                  have hcz21_11 : wr.cell? ⟨gb143, 11, none⟩ = some (.int .u64 a1_11) := (blk_cell BK143.out 11).trans rfl
                  have hfz21_0 := blk_frozen BK143.out 0
                  have hfz21_1 := blk_frozen BK143.out 1
                  have hfz21_2 := blk_frozen BK143.out 2
                  have hfz21_3 := blk_frozen BK143.out 3
                  have hfz21_4 := blk_frozen BK143.out 4
                  have hfz21_5 := blk_frozen BK143.out 5
                  have hfz21_6 := blk_frozen BK143.out 6
                  have hfz21_7 := blk_frozen BK143.out 7
                  have hfz21_8 := blk_frozen BK143.out 8
                  have hfz21_9 := blk_frozen BK143.out 9
                  have hfz21_10 := blk_frozen BK143.out 10
                  have hfz21_11 := blk_frozen BK143.out 11
                  have p145 : 0 ≤ (x5_1 : Int) := of_decide_eq_true (by first | (with_reducible assumption) | assumption)
                  have q145 : x5_1 < (l1_0.length : Int) := of_decide_eq_true (by first | (with_reducible assumption) | assumption)
                  obtain ⟨ad145, e145, hx145_0⟩ := Kd.at_bool HR1_0.out x5_1 p145 q145
                  (try rw [← Nbq12.out] at hx145_0)
                  (try rw [← Nbq14.out] at hx145_0)
                  cases e145
                  replace hx145_0 := (HB.out.cell (World.block_lt_of_cell? w _ hx145_0)).trans hx145_0
                  replace p145 := eq_true p145
                  replace q145 := eq_true q145
                  go_wp2
                  repeat (go_quiet (fail); try go_wp2)
                  go_ret
                  exact ⟨by first | rfl | (simp [errW_none, errW_some] <;> rfl) | (simp [*, errW_none, errW_some] <;> rfl), by repeat (first | (with_reducible first | exact HB.out | apply below_alloc | apply pw_below_drewN | apply below_drew1 | refine below_set ?_ GE142.out | refine below_set ?_ GE143.out) | exact HB.out)⟩
              · replace c13 := Bool.eq_false_iff.mpr c13
                subst c13
                have H1 : (if rdOf false l1_0 x5_1 = true then (some false) else (muleteerref07_Same.l0 k1 (wrap64 (x5_1 + 1)) l0_0 a0_1 a0_2 a0_3 a0_4 a0_5 a0_6 a0_7 a0_8 a0_9 a0_10 a0_11 l1_0 a1_1 a1_2 a1_3 a1_4 a1_5 a1_6 a1_7 a1_8 a1_9 a1_10 a1_11)) = some r := by rw [if_neg (show ¬ (false = true) by decide)] at H; exact H
                clear H
                have H := H1
                clear H1
                obtain ⟨bq22, hbq22⟩ : ∃ b_ : Bool, b_ = (rdOf false l1_0 x5_1) := ⟨_, rfl⟩
                replace H : (if bq22 = true then (some false) else (muleteerref07_Same.l0 k1 (wrap64 (x5_1 + 1)) l0_0 a0_1 a0_2 a0_3 a0_4 a0_5 a0_6 a0_7 a0_8 a0_9 a0_10 a0_11 l1_0 a1_1 a1_2 a1_3 a1_4 a1_5 a1_6 a1_7 a1_8 a1_9 a1_10 a1_11)) = some r := by rw [← hbq22] at H; exact H
                have Nbq22 := Aside0.mk hbq22
                clear hbq22
                by_cases c23 : bq22 = true
                · subst c23
                  have H1 : (some false) = some r := by rw [if_pos rfl] at H; exact H
                  clear H
                  have H := H1
                  clear H1
                  obtain rfl := Option.some.inj H
                  have hnb24 := NB142_143.out
                  have hnc24 := NB143_142.out
                  have hcz25_0 : wr.cell? ⟨gb142, 0, none⟩ = some (.slice A0_0 l0_0.length c0_0) := (blk_cell BK142.out 0).trans rfl
                  have hcz25_1 : wr.cell? ⟨gb142, 1, none⟩ = some (.int .i64 a0_1) := (blk_cell BK142.out 1).trans rfl
                  have hcz25_2 : wr.cell? ⟨gb142, 2, none⟩ = some (.int .i64 a0_2) := (blk_cell BK142.out 2).trans rfl
                  have hcz25_3 : wr.cell? ⟨gb142, 3, none⟩ = some (.int .i64 a0_3) := (blk_cell BK142.out 3).trans rfl
                  have hcz25_4 : wr.cell? ⟨gb142, 4, none⟩ = some (.int .i64 a0_4) := (blk_cell BK142.out 4).trans rfl
                  have hcz25_5 : wr.cell? ⟨gb142, 5, none⟩ = some (.int .i64 a0_5) := (blk_cell BK142.out 5).trans rfl
                  have hcz25_6 : wr.cell? ⟨gb142, 6, none⟩ = some (.int .i64 a0_6) := (blk_cell BK142.out 6).trans rfl
                  have hcz25_7 : wr.cell? ⟨gb142, 7, none⟩ = some (.int .i64 a0_7) := (blk_cell BK142.out 7).trans rfl
                  have hcz25_8 : wr.cell? ⟨gb142, 8, none⟩ = some (.int .i64 a0_8) := (blk_cell BK142.out 8).trans rfl
                  have hcz25_9 : wr.cell? ⟨gb142, 9, none⟩ = some (.int .i64 a0_9) := (blk_cell BK142.out 9).trans rfl
                  have hcz25_10 : wr.cell? ⟨gb142, 10, none⟩ = some (.int .i64 a0_10) := (blk_cell BK142.out 10).trans rfl
                  have hcz25_11 : wr.cell? ⟨gb142, 11, none⟩ = some (.int .u64 a0_11) := (blk_cell BK142.out 11).trans rfl
                  have hfz25_0 := blk_frozen BK142.out 0
                  have hfz25_1 := blk_frozen BK142.out 1
                  have hfz25_2 := blk_frozen BK142.out 2
                  have hfz25_3 := blk_frozen BK142.out 3
                  have hfz25_4 := blk_frozen BK142.out 4
                  have hfz25_5 := blk_frozen BK142.out 5
                  have hfz25_6 := blk_frozen BK142.out 6
                  have hfz25_7 := blk_frozen BK142.out 7
                  have hfz25_8 := blk_frozen BK142.out 8
                  have hfz25_9 := blk_frozen BK142.out 9
                  have hfz25_10 := blk_frozen BK142.out 10
                  have hfz25_11 := blk_frozen BK142.out 11
                  have p144 : 0 ≤ (x5_1 : Int) := of_decide_eq_true (by first | (with_reducible assumption) | assumption)
                  have q144 : x5_1 < (l0_0.length : Int) := of_decide_eq_true (by first | (with_reducible assumption) | assumption)
                  obtain ⟨ad144, e144, hx144_0⟩ := Kd.at_bool HR0_0.out x5_1 p144 q144
                  (try rw [← Nbq12.out] at hx144_0)
                  (try rw [← Nbq22.out] at hx144_0)
                  cases e144
                  replace hx144_0 := (HB.out.cell (World.block_lt_of_cell? w _ hx144_0)).trans hx144_0
                  replace p144 := eq_true p144
                  replace q144 := eq_true q144
                  have hcz26_0 : wr.cell? ⟨gb143, 0, none⟩ = some (.slice A1_0 l1_0.length c1_0) := (blk_cell BK143.out 0).trans rfl
                  have hcz26_1 : wr.cell? ⟨gb143, 1, none⟩ = some (.int .i64 a1_1) := (blk_cell BK143.out 1).trans rfl
                  have hcz26_2 : wr.cell? ⟨gb143, 2, none⟩ = some (.int .i64 a1_2) := (blk_cell BK143.out 2).trans rfl
                  have hcz26_3 : wr.cell? ⟨gb143, 3, none⟩ = some (.int .i64 a1_3) := (blk_cell BK143.out 3).trans rfl
                  have hcz26_4 : wr.cell? ⟨gb143, 4, none⟩ = some (.int .i64 a1_4) := (blk_cell BK143.out 4).trans rfl
                  have hcz26_5 : wr.cell? ⟨gb143, 5, none⟩ = some (.int .i64 a1_5) := (blk_cell BK143.out 5).trans rfl
                  have hcz26_6 : wr.cell? ⟨gb143, 6, none⟩ = some (.int .i64 a1_6) := (blk_cell BK143.out 6).trans rfl
                  have hcz26_7 : wr.cell? ⟨gb143, 7, none⟩ = some (.int .i64 a1_7) := (blk_cell BK143.out 7).trans rfl
                  have hcz26_8 : wr.cell? ⟨gb143, 8, none⟩ = some (.int .i64 a1_8) := (blk_cell BK143.out 8).trans rfl
                  have hcz26_9 : wr.cell? ⟨gb143, 9, none⟩ = some (.int .i64 a1_9) := (blk_cell BK143.out 9).trans rfl
                  have hcz26_10 : wr.cell? ⟨gb143, 10, none⟩ = some (.int .i64 a1_10) := (blk_cell BK143.out 10).trans rfl
                  have hcz26_11 : wr.cell? ⟨gb143, 11, none⟩ = some (.int .u64 a1_11) := (blk_cell BK143.out 11).trans rfl
                  have hfz26_0 := blk_frozen BK143.out 0
                  have hfz26_1 := blk_frozen BK143.out 1
                  have hfz26_2 := blk_frozen BK143.out 2
                  have hfz26_3 := blk_frozen BK143.out 3
                  have hfz26_4 := blk_frozen BK143.out 4
                  have hfz26_5 := blk_frozen BK143.out 5
                  have hfz26_6 := blk_frozen BK143.out 6
                  have hfz26_7 := blk_frozen BK143.out 7
                  have hfz26_8 := blk_frozen BK143.out 8
                  have hfz26_9 := blk_frozen BK143.out 9
                  have hfz26_10 := blk_frozen BK143.out 10
                  have hfz26_11 := blk_frozen BK143.out 11
                  have p145 : 0 ≤ (x5_1 : Int) := of_decide_eq_true (by first | (with_reducible assumption) | assumption)
                  have q145 : x5_1 < (l1_0.length : Int) := of_decide_eq_true (by first | (with_reducible assumption) | assumption)
                  obtain ⟨ad145, e145, hx145_0⟩ := Kd.at_bool HR1_0.out x5_1 p145 q145
                  (try rw [← Nbq12.out] at hx145_0)
                  (try rw [← Nbq22.out] at hx145_0)
                  cases e145
                  replace hx145_0 := (HB.out.cell (World.block_lt_of_cell? w _ hx145_0)).trans hx145_0
                  replace p145 := eq_true p145
                  replace q145 := eq_true q145
                  go_wp2
                  repeat (go_quiet (fail); try go_wp2)
                  go_ret
                  exact ⟨by first | rfl | (simp [errW_none, errW_some] <;> rfl) | (simp [*, errW_none, errW_some] <;> rfl), by repeat (first | (with_reducible first | exact HB.out | apply below_alloc | apply pw_below_drewN | apply below_drew1 | refine below_set ?_ GE142.out | refine below_set ?_ GE143.out) | exact HB.out)⟩
                · replace c23 := Bool.eq_false_iff.mpr c23
                  subst c23
                  have H1 : (muleteerref07_Same.l0 k1 (wrap64 (x5_1 + 1)) l0_0 a0_1 a0_2 a0_3 a0_4 a0_5 a0_6 a0_7 a0_8 a0_9 a0_10 a0_11 l1_0 a1_1 a1_2 a1_3 a1_4 a1_5 a1_6 a1_7 a1_8 a1_9 a1_10 a1_11) = some r := by rw [if_neg (show ¬ (false = true) by decide)] at H; exact H
                  clear H
                  have H := H1
                  clear H1
                  have H' := Aside0.mk H
                  clear H
                  have hnb27 := NB142_143.out
                  have hnc27 := NB143_142.out
                  have hcz28_0 : wr.cell? ⟨gb142, 0, none⟩ = some (.slice A0_0 l0_0.length c0_0) := (blk_cell BK142.out 0).trans rfl
                  have hcz28_1 : wr.cell? ⟨gb142, 1, none⟩ = some (.int .i64 a0_1) := (blk_cell BK142.out 1).trans rfl
                  have hcz28_2 : wr.cell? ⟨gb142, 2, none⟩ = some (.int .i64 a0_2) := (blk_cell BK142.out 2).trans rfl
                  have hcz28_3 : wr.cell? ⟨gb142, 3, none⟩ = some (.int .i64 a0_3) := (blk_cell BK142.out 3).trans rfl
                  have hcz28_4 : wr.cell? ⟨gb142, 4, none⟩ = some (.int .i64 a0_4) := (blk_cell BK142.out 4).trans rfl
                  have hcz28_5 : wr.cell? ⟨gb142, 5, none⟩ = some (.int .i64 a0_5) := (blk_cell BK142.out 5).trans rfl
                  have hcz28_6 : wr.cell? ⟨gb142, 6, none⟩ = some (.int .i64 a0_6) := (blk_cell BK142.out 6).trans rfl
                  have hcz28_7 : wr.cell? ⟨gb142, 7, none⟩ = some (.int .i64 a0_7) := (blk_cell BK142.out 7).trans rfl
                  have hcz28_8 : wr.cell? ⟨gb142, 8, none⟩ = some (.int .i64 a0_8) := (blk_cell BK142.out 8).trans rfl
                  have hcz28_9 : wr.cell? ⟨gb142, 9, none⟩ = some (.int .i64 a0_9) := (blk_cell BK142.out 9).trans rfl
                  have hcz28_10 : wr.cell? ⟨gb142, 10, none⟩ = some (.int .i64 a0_10) := (blk_cell BK142.out 10).trans rfl
                  have hcz28_11 : wr.cell? ⟨gb142, 11, none⟩ = some (.int .u64 a0_11) := (blk_cell BK142.out 11).trans rfl
                  have hfz28_0 := blk_frozen BK142.out 0
                  have hfz28_1 := blk_frozen BK142.out 1
                  have hfz28_2 := blk_frozen BK142.out 2
                  have hfz28_3 := blk_frozen BK142.out 3
                  have hfz28_4 := blk_frozen BK142.out 4
                  have hfz28_5 := blk_frozen BK142.out 5
                  have hfz28_6 := blk_frozen BK142.out 6
                  have hfz28_7 := blk_frozen BK142.out 7
                  have hfz28_8 := blk_frozen BK142.out 8
                  have hfz28_9 := blk_frozen BK142.out 9
                  have hfz28_10 := blk_frozen BK142.out 10
                  have hfz28_11 := blk_frozen BK142.out 11
                  have p144 : 0 ≤ (x5_1 : Int) := of_decide_eq_true (by first | (with_reducible assumption) | assumption)
                  have q144 : x5_1 < (l0_0.length : Int) := of_decide_eq_true (by first | (with_reducible assumption) | assumption)
                  obtain ⟨ad144, e144, hx144_0⟩ := Kd.at_bool HR0_0.out x5_1 p144 q144
                  (try rw [← Nbq12.out] at hx144_0)
                  (try rw [← Nbq22.out] at hx144_0)
                  cases e144
                  replace hx144_0 := (HB.out.cell (World.block_lt_of_cell? w _ hx144_0)).trans hx144_0
                  replace p144 := eq_true p144
                  replace q144 := eq_true q144
                  have hcz29_0 : wr.cell? ⟨gb143, 0, none⟩ = some (.slice A1_0 l1_0.length c1_0) := (blk_cell BK143.out 0).trans rfl
                  have hcz29_1 : wr.cell? ⟨gb143, 1, none⟩ = some (.int .i64 a1_1) := (blk_cell BK143.out 1).trans rfl
                  have hcz29_2 : wr.cell? ⟨gb143, 2, none⟩ = some (.int .i64 a1_2) := (blk_cell BK143.out 2).trans rfl
                  have hcz29_3 : wr.cell? ⟨gb143, 3, none⟩ = some (.int .i64 a1_3) := (blk_cell BK143.out 3).trans rfl
                  have hcz29_4 : wr.cell? ⟨gb143, 4, none⟩ = some (.int .i64 a1_4) := (blk_cell BK143.out 4).trans rfl
                  have hcz29_5 : wr.cell? ⟨gb143, 5, none⟩ = some (.int .i64 a1_5) := (blk_cell BK143.out 5).trans rfl
                  have hcz29_6 : wr.cell? ⟨gb143, 6, none⟩ = some (.int .i64 a1_6) := (blk_cell BK143.out 6).trans rfl
                  have hcz29_7 : wr.cell? ⟨gb143, 7, none⟩ = some (.int .i64 a1_7) := (blk_cell BK143.out 7).trans rfl
                  have hcz29_8 : wr.cell? ⟨gb143, 8, none⟩ = some (.int .i64 a1_8) := (blk_cell BK143.out 8).trans rfl
                  have hcz29_9 : wr.cell? ⟨gb143, 9, none⟩ = some (.int .i64 a1_9) := (blk_cell BK143.out 9).trans rfl
                  have hcz29_10 : wr.cell? ⟨gb143, 10, none⟩ = some (.int .i64 a1_10) := (blk_cell BK143.out 10).trans rfl
                  have hcz29_11 : wr.cell? ⟨gb143, 11, none⟩ = some (.int .u64 a1_11) := (blk_cell BK143.out 11).trans rfl
                  have hfz29_0 := blk_frozen BK143.out 0
                  have hfz29_1 := blk_frozen BK143.out 1
                  have hfz29_2 := blk_frozen BK143.out 2
                  have hfz29_3 := blk_frozen BK143.out 3
                  have hfz29_4 := blk_frozen BK143.out 4
                  have hfz29_5 := blk_frozen BK143.out 5
                  have hfz29_6 := blk_frozen BK143.out 6
                  have hfz29_7 := blk_frozen BK143.out 7
                  have hfz29_8 := blk_frozen BK143.out 8
                  have hfz29_9 := blk_frozen BK143.out 9
                  have hfz29_10 := blk_frozen BK143.out 10
                  have hfz29_11 := blk_frozen BK143.out 11
                  have p145 : 0 ≤ (x5_1 : Int) := of_decide_eq_true (by first | (with_reducible assumption) | assumption)
                  have q145 : x5_1 < (l1_0.length : Int) := of_decide_eq_true (by first | (with_reducible assumption) | assumption)
                  obtain ⟨ad145, e145, hx145_0⟩ := Kd.at_bool HR1_0.out x5_1 p145 q145
                  (try rw [← Nbq12.out] at hx145_0)
                  (try rw [← Nbq22.out] at hx145_0)
                  cases e145
                  replace hx145_0 := (HB.out.cell (World.block_lt_of_cell? w _ hx145_0)).trans hx145_0
                  replace p145 := eq_true p145
                  replace q145 := eq_true q145
                  go_wp2
                  repeat (go_quiet (fail); try go_wp2)
                  go_roundg k1
                  case measure => have := HK1.out; omega
                  case rel => exact ⟨(wrap64 (x5_1 + 1)), (by first | rfl | (simp; done) | (simp [*]; done)), H', ⟨by have := HK1.out; omega⟩, ⟨by (with_reducible repeat (first | refine blk_drewN ?_ _ | refine blk_drew ?_ | refine blk_alloc ?_ _)); exact BK142.out⟩, ⟨by (with_reducible repeat (first | refine blk_drewN ?_ _ | refine blk_drew ?_ | refine blk_alloc ?_ _)); exact BK143.out⟩, ⟨by repeat (first | (with_reducible first | exact HB.out | apply below_alloc | apply pw_below_drewN | apply below_drew1 | refine below_set ?_ GE142.out | refine below_set ?_ GE143.out) | exact HB.out)⟩⟩
            · rw [if_neg c11] at H
              exact absurd H (by simp)
          · rw [if_neg c10] at H
            exact absurd H (by simp)
        · rw [if_neg c9] at H
          have c9b0 : decide (x5_1 < (l0_0.length : Int)) = false := decide_eq_false c9
          clear c9
          by_cases c30 : a0_1 = a1_1
          · rw [if_pos c30] at H
            have c30b0 : (a0_1 == a1_1) = true := beq_iff_eq.mpr c30
            have c30b1 : (a0_1 != a1_1) = false := bne_eq_false_iff_eq.mpr c30
            clear c30
            by_cases c31 : a0_2 = a1_2
            · rw [if_pos c31] at H
              have c31b0 : (a0_2 == a1_2) = true := beq_iff_eq.mpr c31
              have c31b1 : (a0_2 != a1_2) = false := bne_eq_false_iff_eq.mpr c31
              clear c31
              by_cases c32 : a0_3 = a1_3
              · rw [if_pos c32] at H
                have c32b0 : (a0_3 == a1_3) = true := beq_iff_eq.mpr c32
                have c32b1 : (a0_3 != a1_3) = false := bne_eq_false_iff_eq.mpr c32
                clear c32
                by_cases c33 : a0_4 = a1_4
                · rw [if_pos c33] at H
                  have c33b0 : (a0_4 == a1_4) = true := beq_iff_eq.mpr c33
                  have c33b1 : (a0_4 != a1_4) = false := bne_eq_false_iff_eq.mpr c33
                  clear c33
                  by_cases c34 : a0_5 = a1_5
                  · rw [if_pos c34] at H
                    have c34b0 : (a0_5 == a1_5) = true := beq_iff_eq.mpr c34
                    have c34b1 : (a0_5 != a1_5) = false := bne_eq_false_iff_eq.mpr c34
                    clear c34
                    by_cases c35 : a0_6 = a1_6
                    · rw [if_pos c35] at H
                      have c35b0 : (a0_6 == a1_6) = true := beq_iff_eq.mpr c35
                      have c35b1 : (a0_6 != a1_6) = false := bne_eq_false_iff_eq.mpr c35
                      clear c35
                      by_cases c36 : a0_7 = a1_7
                      · rw [if_pos c36] at H
                        have c36b0 : (a0_7 == a1_7) = true := beq_iff_eq.mpr c36
                        have c36b1 : (a0_7 != a1_7) = false := bne_eq_false_iff_eq.mpr c36
                        clear c36
                        by_cases c37 : a0_8 = a1_8
                        · rw [if_pos c37] at H
                          have c37b0 : (a0_8 == a1_8) = true := beq_iff_eq.mpr c37
                          have c37b1 : (a0_8 != a1_8) = false := bne_eq_false_iff_eq.mpr c37
                          clear c37
                          by_cases c38 : a0_9 = a1_9
                          · rw [if_pos c38] at H
                            have c38b0 : (a0_9 == a1_9) = true := beq_iff_eq.mpr c38
                            have c38b1 : (a0_9 != a1_9) = false := bne_eq_false_iff_eq.mpr c38
                            clear c38
                            by_cases c39 : a0_10 = a1_10
                            · rw [if_pos c39] at H
                              have c39b0 : (a0_10 == a1_10) = true := beq_iff_eq.mpr c39
                              have c39b1 : (a0_10 != a1_10) = false := bne_eq_false_iff_eq.mpr c39
                              clear c39
                              obtain rfl := Option.some.inj H
                              have hnb40 := NB142_143.out
                              have hnc40 := NB143_142.out
                              have hcz41_0 : wr.cell? ⟨gb142, 0, none⟩ = some (.slice A0_0 l0_0.length c0_0) := (blk_cell BK142.out 0).trans rfl
                              have hcz41_1 : wr.cell? ⟨gb142, 1, none⟩ = some (.int .i64 a0_1) := (blk_cell BK142.out 1).trans rfl
                              have hcz41_2 : wr.cell? ⟨gb142, 2, none⟩ = some (.int .i64 a0_2) := (blk_cell BK142.out 2).trans rfl
                              have hcz41_3 : wr.cell? ⟨gb142, 3, none⟩ = some (.int .i64 a0_3) := (blk_cell BK142.out 3).trans rfl
                              have hcz41_4 : wr.cell? ⟨gb142, 4, none⟩ = some (.int .i64 a0_4) := (blk_cell BK142.out 4).trans rfl
                              have hcz41_5 : wr.cell? ⟨gb142, 5, none⟩ = some (.int .i64 a0_5) := (blk_cell BK142.out 5).trans rfl
                              have hcz41_6 : wr.cell? ⟨gb142, 6, none⟩ = some (.int .i64 a0_6) := (blk_cell BK142.out 6).trans rfl
                              have hcz41_7 : wr.cell? ⟨gb142, 7, none⟩ = some (.int .i64 a0_7) := (blk_cell BK142.out 7).trans rfl
                              have hcz41_8 : wr.cell? ⟨gb142, 8, none⟩ = some (.int .i64 a0_8) := (blk_cell BK142.out 8).trans rfl
                              have hcz41_9 : wr.cell? ⟨gb142, 9, none⟩ = some (.int .i64 a0_9) := (blk_cell BK142.out 9).trans rfl
                              have hcz41_10 : wr.cell? ⟨gb142, 10, none⟩ = some (.int .i64 a0_10) := (blk_cell BK142.out 10).trans rfl
                              have hcz41_11 : wr.cell? ⟨gb142, 11, none⟩ = some (.int .u64 a0_11) := (blk_cell BK142.out 11).trans rfl
                              have hfz41_0 := blk_frozen BK142.out 0
                              have hfz41_1 := blk_frozen BK142.out 1
                              have hfz41_2 := blk_frozen BK142.out 2
                              have hfz41_3 := blk_frozen BK142.out 3
                              have hfz41_4 := blk_frozen BK142.out 4
                              have hfz41_5 := blk_frozen BK142.out 5
                              have hfz41_6 := blk_frozen BK142.out 6
                              have hfz41_7 := blk_frozen BK142.out 7
                              have hfz41_8 := blk_frozen BK142.out 8
                              have hfz41_9 := blk_frozen BK142.out 9
                              have hfz41_10 := blk_frozen BK142.out 10
                              have hfz41_11 := blk_frozen BK142.out 11
                              have hcz42_0 : wr.cell? ⟨gb143, 0, none⟩ = some (.slice A1_0 l1_0.length c1_0) := (blk_cell BK143.out 0).trans rfl
                              have hcz42_1 : wr.cell? ⟨gb143, 1, none⟩ = some (.int .i64 a1_1) := (blk_cell BK143.out 1).trans rfl
                              have hcz42_2 : wr.cell? ⟨gb143, 2, none⟩ = some (.int .i64 a1_2) := (blk_cell BK143.out 2).trans rfl
                              have hcz42_3 : wr.cell? ⟨gb143, 3, none⟩ = some (.int .i64 a1_3) := (blk_cell BK143.out 3).trans rfl
                              have hcz42_4 : wr.cell? ⟨gb143, 4, none⟩ = some (.int .i64 a1_4) := (blk_cell BK143.out 4).trans rfl
                              have hcz42_5 : wr.cell? ⟨gb143, 5, none⟩ = some (.int .i64 a1_5) := (blk_cell BK143.out 5).trans rfl
                              have hcz42_6 : wr.cell? ⟨gb143, 6, none⟩ = some (.int .i64 a1_6) := (blk_cell BK143.out 6).trans rfl
                              have hcz42_7 : wr.cell? ⟨gb143, 7, none⟩ = some (.int .i64 a1_7) := (blk_cell BK143.out 7).trans rfl
                              have hcz42_8 : wr.cell? ⟨gb143, 8, none⟩ = some (.int .i64 a1_8) := (blk_cell BK143.out 8).trans rfl
                              have hcz42_9 : wr.cell? ⟨gb143, 9, none⟩ = some (.int .i64 a1_9) := (blk_cell BK143.out 9).trans rfl
                              have hcz42_10 : wr.cell? ⟨gb143, 10, none⟩ = some (.int .i64 a1_10) := (blk_cell BK143.out 10).trans rfl
                              have hcz42_11 : wr.cell? ⟨gb143, 11, none⟩ = some (.int .u64 a1_11) := (blk_cell BK143.out 11).trans rfl
                              have hfz42_0 := blk_frozen BK143.out 0
                              have hfz42_1 := blk_frozen BK143.out 1
                              have hfz42_2 := blk_frozen BK143.out 2
                              have hfz42_3 := blk_frozen BK143.out 3
                              have hfz42_4 := blk_frozen BK143.out 4
                              have hfz42_5 := blk_frozen BK143.out 5
                              have hfz42_6 := blk_frozen BK143.out 6
                              have hfz42_7 := blk_frozen BK143.out 7
                              have hfz42_8 := blk_frozen BK143.out 8
                              have hfz42_9 := blk_frozen BK143.out 9
                              have hfz42_10 := blk_frozen BK143.out 10
                              have hfz42_11 := blk_frozen BK143.out 11
                              go_wp2
                              repeat (go_quiet (fail); try go_wp2)
                              go_ret
                              exact ⟨by first | rfl | (simp [errW_none, errW_some] <;> rfl) | (simp [*, errW_none, errW_some] <;> rfl), by repeat (first | (with_reducible first | exact HB.out | apply below_alloc | apply pw_below_drewN | apply below_drew1 | refine below_set ?_ GE142.out | refine below_set ?_ GE143.out) | exact HB.out)⟩
                            · rw [if_neg c39] at H
                              have c39b0 : (a0_10 == a1_10) = false := beq_eq_false_iff_ne.mpr c39
                              have c39b1 : (a0_10 != a1_10) = true := bne_iff_ne.mpr c39
                              obtain rfl := Option.some.inj H
                              have hnb43 := NB142_143.out
                              have hnc43 := NB143_142.out
                              have hcz44_0 : wr.cell? ⟨gb142, 0, none⟩ = some (.slice A0_0 l0_0.length c0_0) := (blk_cell BK142.out 0).trans rfl
                              have hcz44_1 : wr.cell? ⟨gb142, 1, none⟩ = some (.int .i64 a0_1) := (blk_cell BK142.out 1).trans rfl
                              have hcz44_2 : wr.cell? ⟨gb142, 2, none⟩ = some (.int .i64 a0_2) := (blk_cell BK142.out 2).trans rfl
                              have hcz44_3 : wr.cell? ⟨gb142, 3, none⟩ = some (.int .i64 a0_3) := (blk_cell BK142.out 3).trans rfl
                              have hcz44_4 : wr.cell? ⟨gb142, 4, none⟩ = some (.int .i64 a0_4) := (blk_cell BK142.out 4).trans rfl
                              have hcz44_5 : wr.cell? ⟨gb142, 5, none⟩ = some (.int .i64 a0_5) := (blk_cell BK142.out 5).trans rfl
                              have hcz44_6 : wr.cell? ⟨gb142, 6, none⟩ = some (.int .i64 a0_6) := (blk_cell BK142.out 6).trans rfl
                              have hcz44_7 : wr.cell? ⟨gb142, 7, none⟩ = some (.int .i64 a0_7) := (blk_cell BK142.out 7).trans rfl
                              have hcz44_8 : wr.cell? ⟨gb142, 8, none⟩ = some (.int .i64 a0_8) := (blk_cell BK142.out 8).trans rfl
                              have hcz44_9 : wr.cell? ⟨gb142, 9, none⟩ = some (.int .i64 a0_9) := (blk_cell BK142.out 9).trans rfl
                              have hcz44_10 : wr.cell? ⟨gb142, 10, none⟩ = some (.int .i64 a0_10) := (blk_cell BK142.out 10).trans rfl
                              have hcz44_11 : wr.cell? ⟨gb142, 11, none⟩ = some (.int .u64 a0_11) := (blk_cell BK142.out 11).trans rfl
                              have hfz44_0 := blk_frozen BK142.out 0
                              have hfz44_1 := blk_frozen BK142.out 1
                              have hfz44_2 := blk_frozen BK142.out 2
                              have hfz44_3 := blk_frozen BK142.out 3
                              have hfz44_4 := blk_frozen BK142.out 4
                              have hfz44_5 := blk_frozen BK142.out 5
                              have hfz44_6 := blk_frozen BK142.out 6
                              have hfz44_7 := blk_frozen BK142.out 7
                              have hfz44_8 := blk_frozen BK142.out 8
                              have hfz44_9 := blk_frozen BK142.out 9
                              have hfz44_10 := blk_frozen BK142.out 10
                              have hfz44_11 := blk_frozen BK142.out 11
                              have hcz45_0 : wr.cell? ⟨gb143, 0, none⟩ = some (.slice A1_0 l1_0.length c1_0) := (blk_cell BK143.out 0).trans rfl
                              have hcz45_1 : wr.cell? ⟨gb143, 1, none⟩ = some (.int .i64 a1_1) := (blk_cell BK143.out 1).trans rfl
                              have hcz45_2 : wr.cell? ⟨gb143, 2, none⟩ = some (.int .i64 a1_2) := (blk_cell BK143.out 2).trans rfl
                              have hcz45_3 : wr.cell? ⟨gb143, 3, none⟩ = some (.int .i64 a1_3) := (blk_cell BK143.out 3).trans rfl
                              have hcz45_4 : wr.cell? ⟨gb143, 4, none⟩ = some (.int .i64 a1_4) := (blk_cell BK143.out 4).trans rfl
                              have hcz45_5 : wr.cell? ⟨gb143, 5, none⟩ = some (.int .i64 a1_5) := (blk_cell BK143.out 5).trans rfl
                              have hcz45_6 : wr.cell? ⟨gb143, 6, none⟩ = some (.int .i64 a1_6) := (blk_cell BK143.out 6).trans rfl
                              have hcz45_7 : wr.cell? ⟨gb143, 7, none⟩ = some (.int .i64 a1_7) := (blk_cell BK143.out 7).trans rfl
                              have hcz45_8 : wr.cell? ⟨gb143, 8, none⟩ = some (.int .i64 a1_8) := (blk_cell BK143.out 8).trans rfl
                              have hcz45_9 : wr.cell? ⟨gb143, 9, none⟩ = some (.int .i64 a1_9) := (blk_cell BK143.out 9).trans rfl
                              have hcz45_10 : wr.cell? ⟨gb143, 10, none⟩ = some (.int .i64 a1_10) := (blk_cell BK143.out 10).trans rfl
                              have hcz45_11 : wr.cell? ⟨gb143, 11, none⟩ = some (.int .u64 a1_11) := (blk_cell BK143.out 11).trans rfl
                              have hfz45_0 := blk_frozen BK143.out 0
                              have hfz45_1 := blk_frozen BK143.out 1
                              have hfz45_2 := blk_frozen BK143.out 2
                              have hfz45_3 := blk_frozen BK143.out 3
                              have hfz45_4 := blk_frozen BK143.out 4
                              have hfz45_5 := blk_frozen BK143.out 5
                              have hfz45_6 := blk_frozen BK143.out 6
                              have hfz45_7 := blk_frozen BK143.out 7
                              have hfz45_8 := blk_frozen BK143.out 8
                              have hfz45_9 := blk_frozen BK143.out 9
                              have hfz45_10 := blk_frozen BK143.out 10
                              have hfz45_11 := blk_frozen BK143.out 11
                              go_wp2
                              repeat (go_quiet (fail); try go_wp2)
                              go_ret
                              exact ⟨by first | rfl | (simp [errW_none, errW_some] <;> rfl) | (simp [*, errW_none, errW_some] <;> rfl), by repeat (first | (with_reducible first | exact HB.out | apply below_alloc | apply pw_below_drewN | apply below_drew1 | refine below_set ?_ GE142.out | refine below_set ?_ GE143.out) | exact HB.out)⟩
                          · rw [if_neg c38] at H
                            have c38b0 : (a0_9 == a1_9) = false := beq_eq_false_iff_ne.mpr c38
                            have c38b1 : (a0_9 != a1_9) = true := bne_iff_ne.mpr c38
                            obtain rfl := Option.some.inj H
                            have hnb46 := NB142_143.out
                            have hnc46 := NB143_142.out
                            have hcz47_0 : wr.cell? ⟨gb142, 0, none⟩ = some (.slice A0_0 l0_0.length c0_0) := (blk_cell BK142.out 0).trans rfl
                            have hcz47_1 : wr.cell? ⟨gb142, 1, none⟩ = some (.int .i64 a0_1) := (blk_cell BK142.out 1).trans rfl
                            have hcz47_2 : wr.cell? ⟨gb142, 2, none⟩ = some (.int .i64 a0_2) := (blk_cell BK142.out 2).trans rfl
                            have hcz47_3 : wr.cell? ⟨gb142, 3, none⟩ = some (.int .i64 a0_3) := (blk_cell BK142.out 3).trans rfl
                            have hcz47_4 : wr.cell? ⟨gb142, 4, none⟩ = some (.int .i64 a0_4) := (blk_cell BK142.out 4).trans rfl
                            have hcz47_5 : wr.cell? ⟨gb142, 5, none⟩ = some (.int .i64 a0_5) := (blk_cell BK142.out 5).trans rfl
                            have hcz47_6 : wr.cell? ⟨gb142, 6, none⟩ = some (.int .i64 a0_6) := (blk_cell BK142.out 6).trans rfl
                            have hcz47_7 : wr.cell? ⟨gb142, 7, none⟩ = some (.int .i64 a0_7) := (blk_cell BK142.out 7).trans rfl
                            have hcz47_8 : wr.cell? ⟨gb142, 8, none⟩ = some (.int .i64 a0_8) := (blk_cell BK142.out 8).trans rfl
                            have hcz47_9 : wr.cell? ⟨gb142, 9, none⟩ = some (.int .i64 a0_9) := (blk_cell BK142.out 9).trans rfl
                            have hcz47_10 : wr.cell? ⟨gb142, 10, none⟩ = some (.int .i64 a0_10) := (blk_cell BK142.out 10).trans rfl
                            have hcz47_11 : wr.cell? ⟨gb142, 11, none⟩ = some (.int .u64 a0_11) := (blk_cell BK142.out 11).trans rfl
                            have hfz47_0 := blk_frozen BK142.out 0
                            have hfz47_1 := blk_frozen BK142.out 1
                            have hfz47_2 := blk_frozen BK142.out 2
                            have hfz47_3 := blk_frozen BK142.out 3
                            have hfz47_4 := blk_frozen BK142.out 4
                            have hfz47_5 := blk_frozen BK142.out 5
                            have hfz47_6 := blk_frozen BK142.out 6
                            have hfz47_7 := blk_frozen BK142.out 7
                            have hfz47_8 := blk_frozen BK142.out 8
                            have hfz47_9 := blk_frozen BK142.out 9
                            have hfz47_10 := blk_frozen BK142.out 10
                            have hfz47_11 := blk_frozen BK142.out 11
                            have hcz48_0 : wr.cell? ⟨gb143, 0, none⟩ = some (.slice A1_0 l1_0.length c1_0) := (blk_cell BK143.out 0).trans rfl
                            have hcz48_1 : wr.cell? ⟨gb143, 1, none⟩ = some (.int .i64 a1_1) := (blk_cell BK143.out 1).trans rfl
                            have hcz48_2 : wr.cell? ⟨gb143, 2, none⟩ = some (.int .i64 a1_2) := (blk_cell BK143.out 2).trans rfl
                            have hcz48_3 : wr.cell? ⟨gb143, 3, none⟩ = some (.int .i64 a1_3) := (blk_cell BK143.out 3).trans rfl
                            have hcz48_4 : wr.cell? ⟨gb143, 4, none⟩ = some (.int .i64 a1_4) := (blk_cell BK143.out 4).trans rfl
                            have hcz48_5 : wr.cell? ⟨gb143, 5, none⟩ = some (.int .i64 a1_5) := (blk_cell BK143.out 5).trans rfl
                            have hcz48_6 : wr.cell? ⟨gb143, 6, none⟩ = some (.int .i64 a1_6) := (blk_cell BK143.out 6).trans rfl
                            have hcz48_7 : wr.cell? ⟨gb143, 7, none⟩ = some (.int .i64 a1_7) := (blk_cell BK143.out 7).trans rfl
                            have hcz48_8 : wr.cell? ⟨gb143, 8, none⟩ = some (.int .i64 a1_8) := (blk_cell BK143.out 8).trans rfl
                            have hcz48_9 : wr.cell? ⟨gb143, 9, none⟩ = some (.int .i64 a1_9) := (blk_cell BK143.out 9).trans rfl
                            have hcz48_10 : wr.cell? ⟨gb143, 10, none⟩ = some (.int .i64 a1_10) := (blk_cell BK143.out 10).trans rfl
                            have hcz48_11 : wr.cell? ⟨gb143, 11, none⟩ = some (.int .u64 a1_11) := (blk_cell BK143.out 11).trans rfl
                            have hfz48_0 := blk_frozen BK143.out 0
                            have hfz48_1 := blk_frozen BK143.out 1
                            have hfz48_2 := blk_frozen BK143.out 2
                            have hfz48_3 := blk_frozen BK143.out 3
                            have hfz48_4 := blk_frozen BK143.out 4
                            have hfz48_5 := blk_frozen BK143.out 5
                            have hfz48_6 := blk_frozen BK143.out 6
                            have hfz48_7 := blk_frozen BK143.out 7
                            have hfz48_8 := blk_frozen BK143.out 8
                            have hfz48_9 := blk_frozen BK143.out 9
                            have hfz48_10 := blk_frozen BK143.out 10
                            have hfz48_11 := blk_frozen BK143.out 11
                            go_wp2
                            repeat (go_quiet (fail); try go_wp2)
                            go_ret
                            exact ⟨by first | rfl | (simp [errW_none, errW_some] <;> rfl) | (simp [*, errW_none, errW_some] <;> rfl), by repeat (first | (with_reducible first | exact HB.out | apply below_alloc | apply pw_below_drewN | apply below_drew1 | refine below_set ?_ GE142.out | refine below_set ?_ GE143.out) | exact HB.out)⟩
                        · rw [if_neg c37] at H
                          have c37b0 : (a0_8 == a1_8) = false := beq_eq_false_iff_ne.mpr c37
                          have c37b1 : (a0_8 != a1_8) = true := bne_iff_ne.mpr c37
                          obtain rfl := Option.some.inj H
                          have hnb49 := NB142_143.out
                          have hnc49 := NB143_142.out
                          have hcz50_0 : wr.cell? ⟨gb142, 0, none⟩ = some (.slice A0_0 l0_0.length c0_0) := (blk_cell BK142.out 0).trans rfl
                          have hcz50_1 : wr.cell? ⟨gb142, 1, none⟩ = some (.int .i64 a0_1) := (blk_cell BK142.out 1).trans rfl
                          have hcz50_2 : wr.cell? ⟨gb142, 2, none⟩ = some (.int .i64 a0_2) := (blk_cell BK142.out 2).trans rfl
                          have hcz50_3 : wr.cell? ⟨gb142, 3, none⟩ = some (.int .i64 a0_3) := (blk_cell BK142.out 3).trans rfl
                          have hcz50_4 : wr.cell? ⟨gb142, 4, none⟩ = some (.int .i64 a0_4) := (blk_cell BK142.out 4).trans rfl
                          have hcz50_5 : wr.cell? ⟨gb142, 5, none⟩ = some (.int .i64 a0_5) := (blk_cell BK142.out 5).trans rfl
                          have hcz50_6 : wr.cell? ⟨gb142, 6, none⟩ = some (.int .i64 a0_6) := (blk_cell BK142.out 6).trans rfl
                          have hcz50_7 : wr.cell? ⟨gb142, 7, none⟩ = some (.int .i64 a0_7) := (blk_cell BK142.out 7).trans rfl
                          have hcz50_8 : wr.cell? ⟨gb142, 8, none⟩ = some (.int .i64 a0_8) := (blk_cell BK142.out 8).trans rfl
                          have hcz50_9 : wr.cell? ⟨gb142, 9, none⟩ = some (.int .i64 a0_9) := (blk_cell BK142.out 9).trans rfl
                          have hcz50_10 : wr.cell? ⟨gb142, 10, none⟩ = some (.int .i64 a0_10) := (blk_cell BK142.out 10).trans rfl
                          have hcz50_11 : wr.cell? ⟨gb142, 11, none⟩ = some (.int .u64 a0_11) := (blk_cell BK142.out 11).trans rfl
                          have hfz50_0 := blk_frozen BK142.out 0
                          have hfz50_1 := blk_frozen BK142.out 1
                          have hfz50_2 := blk_frozen BK142.out 2
                          have hfz50_3 := blk_frozen BK142.out 3
                          have hfz50_4 := blk_frozen BK142.out 4
                          have hfz50_5 := blk_frozen BK142.out 5
                          have hfz50_6 := blk_frozen BK142.out 6
                          have hfz50_7 := blk_frozen BK142.out 7
                          have hfz50_8 := blk_frozen BK142.out 8
                          have hfz50_9 := blk_frozen BK142.out 9
                          have hfz50_10 := blk_frozen BK142.out 10
                          have hfz50_11 := blk_frozen BK142.out 11
                          have hcz51_0 : wr.cell? ⟨gb143, 0, none⟩ = some (.slice A1_0 l1_0.length c1_0) := (blk_cell BK143.out 0).trans rfl
                          have hcz51_1 : wr.cell? ⟨gb143, 1, none⟩ = some (.int .i64 a1_1) := (blk_cell BK143.out 1).trans rfl
                          have hcz51_2 : wr.cell? ⟨gb143, 2, none⟩ = some (.int .i64 a1_2) := (blk_cell BK143.out 2).trans rfl
                          have hcz51_3 : wr.cell? ⟨gb143, 3, none⟩ = some (.int .i64 a1_3) := (blk_cell BK143.out 3).trans rfl
                          have hcz51_4 : wr.cell? ⟨gb143, 4, none⟩ = some (.int .i64 a1_4) := (blk_cell BK143.out 4).trans rfl
                          have hcz51_5 : wr.cell? ⟨gb143, 5, none⟩ = some (.int .i64 a1_5) := (blk_cell BK143.out 5).trans rfl
                          have hcz51_6 : wr.cell? ⟨gb143, 6, none⟩ = some (.int .i64 a1_6) := (blk_cell BK143.out 6).trans rfl
                          have hcz51_7 : wr.cell? ⟨gb143, 7, none⟩ = some (.int .i64 a1_7) := (blk_cell BK143.out 7).trans rfl
                          have hcz51_8 : wr.cell? ⟨gb143, 8, none⟩ = some (.int .i64 a1_8) := (blk_cell BK143.out 8).trans rfl
                          have hcz51_9 : wr.cell? ⟨gb143, 9, none⟩ = some (.int .i64 a1_9) := (blk_cell BK143.out 9).trans rfl
                          have hcz51_10 : wr.cell? ⟨gb143, 10, none⟩ = some (.int .i64 a1_10) := (blk_cell BK143.out 10).trans rfl
                          have hcz51_11 : wr.cell? ⟨gb143, 11, none⟩ = some (.int .u64 a1_11) := (blk_cell BK143.out 11).trans rfl
                          have hfz51_0 := blk_frozen BK143.out 0
                          have hfz51_1 := blk_frozen BK143.out 1
                          have hfz51_2 := blk_frozen BK143.out 2
                          have hfz51_3 := blk_frozen BK143.out 3
                          have hfz51_4 := blk_frozen BK143.out 4
                          have hfz51_5 := blk_frozen BK143.out 5
                          have hfz51_6 := blk_frozen BK143.out 6
                          have hfz51_7 := blk_frozen BK143.out 7
                          have hfz51_8 := blk_frozen BK143.out 8
                          have hfz51_9 := blk_frozen BK143.out 9
                          have hfz51_10 := blk_frozen BK143.out 10
                          have hfz51_11 := blk_frozen BK143.out 11
                          go_wp2
                          repeat (go_quiet (fail); try go_wp2)
                          go_ret
                          exact ⟨by first | rfl | (simp [errW_none, errW_some] <;> rfl) | (simp [*, errW_none, errW_some] <;> rfl), by repeat (first | (with_reducible first | exact HB.out | apply below_alloc | apply pw_below_drewN | apply below_drew1 | refine below_set ?_ GE142.out | refine below_set ?_ GE143.out) | exact HB.out)⟩
                      · rw [if_neg c36] at H
                        have c36b0 : (a0_7 == a1_7) = false := beq_eq_false_iff_ne.mpr c36
                        have c36b1 : (a0_7 != a1_7) = true := bne_iff_ne.mpr c36
                        obtain rfl := Option.some.inj H
                        have hnb52 := NB142_143.out
                        have hnc52 := NB143_142.out
                        have hcz53_0 : wr.cell? ⟨gb142, 0, none⟩ = some (.slice A0_0 l0_0.length c0_0) := (blk_cell BK142.out 0).trans rfl
                        have hcz53_1 : wr.cell? ⟨gb142, 1, none⟩ = some (.int .i64 a0_1) := (blk_cell BK142.out 1).trans rfl
                        have hcz53_2 : wr.cell? ⟨gb142, 2, none⟩ = some (.int .i64 a0_2) := (blk_cell BK142.out 2).trans rfl
                        have hcz53_3 : wr.cell? ⟨gb142, 3, none⟩ = some (.int .i64 a0_3) := (blk_cell BK142.out 3).trans rfl
                        have hcz53_4 : wr.cell? ⟨gb142, 4, none⟩ = some (.int .i64 a0_4) := (blk_cell BK142.out 4).trans rfl
                        have hcz53_5 : wr.cell? ⟨gb142, 5, none⟩ = some (.int .i64 a0_5) := (blk_cell BK142.out 5).trans rfl
                        have hcz53_6 : wr.cell? ⟨gb142, 6, none⟩ = some (.int .i64 a0_6) := (blk_cell BK142.out 6).trans rfl
                        have hcz53_7 : wr.cell? ⟨gb142, 7, none⟩ = some (.int .i64 a0_7) := (blk_cell BK142.out 7).trans rfl
                        have hcz53_8 : wr.cell? ⟨gb142, 8, none⟩ = some (.int .i64 a0_8) := (blk_cell BK142.out 8).trans rfl
                        have hcz53_9 : wr.cell? ⟨gb142, 9, none⟩ = some (.int .i64 a0_9) := (blk_cell BK142.out 9).trans rfl
                        have hcz53_10 : wr.cell? ⟨gb142, 10, none⟩ = some (.int .i64 a0_10) := (blk_cell BK142.out 10).trans rfl
                        have hcz53_11 : wr.cell? ⟨gb142, 11, none⟩ = some (.int .u64 a0_11) := (blk_cell BK142.out 11).trans rfl
                        have hfz53_0 := blk_frozen BK142.out 0
                        have hfz53_1 := blk_frozen BK142.out 1
                        have hfz53_2 := blk_frozen BK142.out 2
                        have hfz53_3 := blk_frozen BK142.out 3
                        have hfz53_4 := blk_frozen BK142.out 4
                        have hfz53_5 := blk_frozen BK142.out 5
                        have hfz53_6 := blk_frozen BK142.out 6
                        have hfz53_7 := blk_frozen BK142.out 7
                        have hfz53_8 := blk_frozen BK142.out 8
                        have hfz53_9 := blk_frozen BK142.out 9
                        have hfz53_10 := blk_frozen BK142.out 10
                        have hfz53_11 := blk_frozen BK142.out 11
                        have hcz54_0 : wr.cell? ⟨gb143, 0, none⟩ = some (.slice A1_0 l1_0.length c1_0) := (blk_cell BK143.out 0).trans rfl
                        have hcz54_1 : wr.cell? ⟨gb143, 1, none⟩ = some (.int .i64 a1_1) := (blk_cell BK143.out 1).trans rfl
                        have hcz54_2 : wr.cell? ⟨gb143, 2, none⟩ = some (.int .i64 a1_2) := (blk_cell BK143.out 2).trans rfl
                        have hcz54_3 : wr.cell? ⟨gb143, 3, none⟩ = some (.int .i64 a1_3) := (blk_cell BK143.out 3).trans rfl
                        have hcz54_4 : wr.cell? ⟨gb143, 4, none⟩ = some (.int .i64 a1_4) := (blk_cell BK143.out 4).trans rfl
                        have hcz54_5 : wr.cell? ⟨gb143, 5, none⟩ = some (.int .i64 a1_5) := (blk_cell BK143.out 5).trans rfl
                        have hcz54_6 : wr.cell? ⟨gb143, 6, none⟩ = some (.int .i64 a1_6) := (blk_cell BK143.out 6).trans rfl
                        have hcz54_7 : wr.cell? ⟨gb143, 7, none⟩ = some (.int .i64 a1_7) := (blk_cell BK143.out 7).trans rfl
                        have hcz54_8 : wr.cell? ⟨gb143, 8, none⟩ = some (.int .i64 a1_8) := (blk_cell BK143.out 8).trans rfl
                        have hcz54_9 : wr.cell? ⟨gb143, 9, none⟩ = some (.int .i64 a1_9) := (blk_cell BK143.out 9).trans rfl
                        have hcz54_10 : wr.cell? ⟨gb143, 10, none⟩ = some (.int .i64 a1_10) := (blk_cell BK143.out 10).trans rfl
                        have hcz54_11 : wr.cell? ⟨gb143, 11, none⟩ = some (.int .u64 a1_11) := (blk_cell BK143.out 11).trans rfl
                        have hfz54_0 := blk_frozen BK143.out 0
                        have hfz54_1 := blk_frozen BK143.out 1
                        have hfz54_2 := blk_frozen BK143.out 2
                        have hfz54_3 := blk_frozen BK143.out 3
                        have hfz54_4 := blk_frozen BK143.out 4
                        have hfz54_5 := blk_frozen BK143.out 5
                        have hfz54_6 := blk_frozen BK143.out 6
                        have hfz54_7 := blk_frozen BK143.out 7
                        have hfz54_8 := blk_frozen BK143.out 8
                        have hfz54_9 := blk_frozen BK143.out 9
                        have hfz54_10 := blk_frozen BK143.out 10
                        have hfz54_11 := blk_frozen BK143.out 11
                        go_wp2
                        repeat (go_quiet (fail); try go_wp2)
                        go_ret
                        exact ⟨by first | rfl | (simp [errW_none, errW_some] <;> rfl) | (simp [*, errW_none, errW_some] <;> rfl), by repeat (first | (with_reducible first | exact HB.out | apply below_alloc | apply pw_below_drewN | apply below_drew1 | refine below_set ?_ GE142.out | refine below_set ?_ GE143.out) | exact HB.out)⟩
                    · rw [if_neg c35] at H
                      have c35b0 : (a0_6 == a1_6) = false := beq_eq_false_iff_ne.mpr c35
                      have c35b1 : (a0_6 != a1_6) = true := bne_iff_ne.mpr c35
                      obtain rfl := Option.some.inj H
                      have hnb55 := NB142_143.out
                      have hnc55 := NB143_142.out
                      have hcz56_0 : wr.cell? ⟨gb142, 0, none⟩ = some (.slice A0_0 l0_0.length c0_0) := (blk_cell BK142.out 0).trans rfl
                      have hcz56_1 : wr.cell? ⟨gb142, 1, none⟩ = some (.int .i64 a0_1) := (blk_cell BK142.out 1).trans rfl
                      have hcz56_2 : wr.cell? ⟨gb142, 2, none⟩ = some (.int .i64 a0_2) := (blk_cell BK142.out 2).trans rfl
                      have hcz56_3 : wr.cell? ⟨gb142, 3, none⟩ = some (.int .i64 a0_3) := (blk_cell BK142.out 3).trans rfl
                      have hcz56_4 : wr.cell? ⟨gb142, 4, none⟩ = some (.int .i64 a0_4) := (blk_cell BK142.out 4).trans rfl
                      have hcz56_5 : wr.cell? ⟨gb142, 5, none⟩ = some (.int .i64 a0_5) := (blk_cell BK142.out 5).trans rfl
                      have hcz56_6 : wr.cell? ⟨gb142, 6, none⟩ = some (.int .i64 a0_6) := (blk_cell BK142.out 6).trans rfl
                      have hcz56_7 : wr.cell? ⟨gb142, 7, none⟩ = some (.int .i64 a0_7) := (blk_cell BK142.out 7).trans rfl
                      have hcz56_8 : wr.cell? ⟨gb142, 8, none⟩ = some (.int .i64 a0_8) := (blk_cell BK142.out 8).trans rfl
                      have hcz56_9 : wr.cell? ⟨gb142, 9, none⟩ = some (.int .i64 a0_9) := (blk_cell BK142.out 9).trans rfl
                      have hcz56_10 : wr.cell? ⟨gb142, 10, none⟩ = some (.int .i64 a0_10) := (blk_cell BK142.out 10).trans rfl
                      have hcz56_11 : wr.cell? ⟨gb142, 11, none⟩ = some (.int .u64 a0_11) := (blk_cell BK142.out 11).trans rfl
                      have hfz56_0 := blk_frozen BK142.out 0
                      have hfz56_1 := blk_frozen BK142.out 1
                      have hfz56_2 := blk_frozen BK142.out 2
                      have hfz56_3 := blk_frozen BK142.out 3
                      have hfz56_4 := blk_frozen BK142.out 4
                      have hfz56_5 := blk_frozen BK142.out 5
                      have hfz56_6 := blk_frozen BK142.out 6
                      have hfz56_7 := blk_frozen BK142.out 7
                      have hfz56_8 := blk_frozen BK142.out 8
                      have hfz56_9 := blk_frozen BK142.out 9
                      have hfz56_10 := blk_frozen BK142.out 10
                      have hfz56_11 := blk_frozen BK142.out 11
                      have hcz57_0 : wr.cell? ⟨gb143, 0, none⟩ = some (.slice A1_0 l1_0.length c1_0) := (blk_cell BK143.out 0).trans rfl
                      have hcz57_1 : wr.cell? ⟨gb143, 1, none⟩ = some (.int .i64 a1_1) := (blk_cell BK143.out 1).trans rfl
                      have hcz57_2 : wr.cell? ⟨gb143, 2, none⟩ = some (.int .i64 a1_2) := (blk_cell BK143.out 2).trans rfl
                      have hcz57_3 : wr.cell? ⟨gb143, 3, none⟩ = some (.int .i64 a1_3) := (blk_cell BK143.out 3).trans rfl
                      have hcz57_4 : wr.cell? ⟨gb143, 4, none⟩ = some (.int .i64 a1_4) := (blk_cell BK143.out 4).trans rfl
                      have hcz57_5 : wr.cell? ⟨gb143, 5, none⟩ = some (.int .i64 a1_5) := (blk_cell BK143.out 5).trans rfl
                      have hcz57_6 : wr.cell? ⟨gb143, 6, none⟩ = some (.int .i64 a1_6) := (blk_cell BK143.out 6).trans rfl
                      have hcz57_7 : wr.cell? ⟨gb143, 7, none⟩ = some (.int .i64 a1_7) := (blk_cell BK143.out 7).trans rfl
                      have hcz57_8 : wr.cell? ⟨gb143, 8, none⟩ = some (.int .i64 a1_8) := (blk_cell BK143.out 8).trans rfl
                      have hcz57_9 : wr.cell? ⟨gb143, 9, none⟩ = some (.int .i64 a1_9) := (blk_cell BK143.out 9).trans rfl
                      have hcz57_10 : wr.cell? ⟨gb143, 10, none⟩ = some (.int .i64 a1_10) := (blk_cell BK143.out 10).trans rfl
                      have hcz57_11 : wr.cell? ⟨gb143, 11, none⟩ = some (.int .u64 a1_11) := (blk_cell BK143.out 11).trans rfl
                      have hfz57_0 := blk_frozen BK143.out 0
                      have hfz57_1 := blk_frozen BK143.out 1
                      have hfz57_2 := blk_frozen BK143.out 2
                      have hfz57_3 := blk_frozen BK143.out 3
                      have hfz57_4 := blk_frozen BK143.out 4
                      have hfz57_5 := blk_frozen BK143.out 5
                      have hfz57_6 := blk_frozen BK143.out 6
                      have hfz57_7 := blk_frozen BK143.out 7
                      have hfz57_8 := blk_frozen BK143.out 8
                      have hfz57_9 := blk_frozen BK143.out 9
                      have hfz57_10 := blk_frozen BK143.out 10
                      have hfz57_11 := blk_frozen BK143.out 11
                      go_wp2
                      repeat (go_quiet (fail); try go_wp2)
                      go_ret
                      exact ⟨by first | rfl | (simp [errW_none, errW_some] <;> rfl) | (simp [*, errW_none, errW_some] <;> rfl), by repeat (first | (with_reducible first | exact HB.out | apply below_alloc | apply pw_below_drewN | apply below_drew1 | refine below_set ?_ GE142.out | refine below_set ?_ GE143.out) | exact HB.out)⟩
                  · rw [if_neg c34] at H
                    have c34b0 : (a0_5 == a1_5) = false := beq_eq_false_iff_ne.mpr c34
                    have c34b1 : (a0_5 != a1_5) = true := bne_iff_ne.mpr c34
                    obtain rfl := Option.some.inj H
                    have hnb58 := NB142_143.out
                    have hnc58 := NB143_142.out
                    have hcz59_0 : wr.cell? ⟨gb142, 0, none⟩ = some (.slice A0_0 l0_0.length c0_0) := (blk_cell BK142.out 0).trans rfl
                    have hcz59_1 : wr.cell? ⟨gb142, 1, none⟩ = some (.int .i64 a0_1) := (blk_cell BK142.out 1).trans rfl
                    have hcz59_2 : wr.cell? ⟨gb142, 2, none⟩ = some (.int .i64 a0_2) := (blk_cell BK142.out 2).trans rfl
                    have hcz59_3 : wr.cell? ⟨gb142, 3, none⟩ = some (.int .i64 a0_3) := (blk_cell BK142.out 3).trans rfl
                    have hcz59_4 : wr.cell? ⟨gb142, 4, none⟩ = some (.int .i64 a0_4) := (blk_cell BK142.out 4).trans rfl
                    have hcz59_5 : wr.cell? ⟨gb142, 5, none⟩ = some (.int .i64 a0_5) := (blk_cell BK142.out 5).trans rfl
                    have hcz59_6 : wr.cell? ⟨gb142, 6, none⟩ = some (.int .i64 a0_6) := (blk_cell BK142.out 6).trans rfl
                    have hcz59_7 : wr.cell? ⟨gb142, 7, none⟩ = some (.int .i64 a0_7) := (blk_cell BK142.out 7).trans rfl
                    have hcz59_8 : wr.cell? ⟨gb142, 8, none⟩ = some (.int .i64 a0_8) := (blk_cell BK142.out 8).trans rfl
                    have hcz59_9 : wr.cell? ⟨gb142, 9, none⟩ = some (.int .i64 a0_9) := (blk_cell BK142.out 9).trans rfl
                    have hcz59_10 : wr.cell? ⟨gb142, 10, none⟩ = some (.int .i64 a0_10) := (blk_cell BK142.out 10).trans rfl
                    have hcz59_11 : wr.cell? ⟨gb142, 11, none⟩ = some (.int .u64 a0_11) := (blk_cell BK142.out 11).trans rfl
                    have hfz59_0 := blk_frozen BK142.out 0
                    have hfz59_1 := blk_frozen BK142.out 1
                    have hfz59_2 := blk_frozen BK142.out 2
                    have hfz59_3 := blk_frozen BK142.out 3
                    have hfz59_4 := blk_frozen BK142.out 4
                    have hfz59_5 := blk_frozen BK142.out 5
                    have hfz59_6 := blk_frozen BK142.out 6
                    have hfz59_7 := blk_frozen BK142.out 7
                    have hfz59_8 := blk_frozen BK142.out 8
                    have hfz59_9 := blk_frozen BK142.out 9
                    have hfz59_10 := blk_frozen BK142.out 10
                    have hfz59_11 := blk_frozen BK142.out 11
                    have hcz60_0 : wr.cell? ⟨gb143, 0, none⟩ = some (.slice A1_0 l1_0.length c1_0) := (blk_cell BK143.out 0).trans rfl
                    have hcz60_1 : wr.cell? ⟨gb143, 1, none⟩ = some (.int .i64 a1_1) := (blk_cell BK143.out 1).trans rfl
                    have hcz60_2 : wr.cell? ⟨gb143, 2, none⟩ = some (.int .i64 a1_2) := (blk_cell BK143.out 2).trans rfl
                    have hcz60_3 : wr.cell? ⟨gb143, 3, none⟩ = some (.int .i64 a1_3) := (blk_cell BK143.out 3).trans rfl
                    have hcz60_4 : wr.cell? ⟨gb143, 4, none⟩ = some (.int .i64 a1_4) := (blk_cell BK143.out 4).trans rfl
                    have hcz60_5 : wr.cell? ⟨gb143, 5, none⟩ = some (.int .i64 a1_5) := (blk_cell BK143.out 5).trans rfl
                    have hcz60_6 : wr.cell? ⟨gb143, 6, none⟩ = some (.int .i64 a1_6) := (blk_cell BK143.out 6).trans rfl
                    have hcz60_7 : wr.cell? ⟨gb143, 7, none⟩ = some (.int .i64 a1_7) := (blk_cell BK143.out 7).trans rfl
                    have hcz60_8 : wr.cell? ⟨gb143, 8, none⟩ = some (.int .i64 a1_8) := (blk_cell BK143.out 8).trans rfl
                    have hcz60_9 : wr.cell? ⟨gb143, 9, none⟩ = some (.int .i64 a1_9) := (blk_cell BK143.out 9).trans rfl
                    have hcz60_10 : wr.cell? ⟨gb143, 10, none⟩ = some (.int .i64 a1_10) := (blk_cell BK143.out 10).trans rfl
                    have hcz60_11 : wr.cell? ⟨gb143, 11, none⟩ = some (.int .u64 a1_11) := (blk_cell BK143.out 11).trans rfl
                    have hfz60_0 := blk_frozen BK143.out 0
                    have hfz60_1 := blk_frozen BK143.out 1
                    have hfz60_2 := blk_frozen BK143.out 2
                    have hfz60_3 := blk_frozen BK143.out 3
                    have hfz60_4 := blk_frozen BK143.out 4
                    have hfz60_5 := blk_frozen BK143.out 5
                    have hfz60_6 := blk_frozen BK143.out 6
                    have hfz60_7 := blk_frozen BK143.out 7
                    have hfz60_8 := blk_frozen BK143.out 8
                    have hfz60_9 := blk_frozen BK143.out 9
                    have hfz60_10 := blk_frozen BK143.out 10
                    have hfz60_11 := blk_frozen BK143.out 11
                    go_wp2
                    repeat (go_quiet (fail); try go_wp2)
                    go_ret
                    exact ⟨by first | rfl | (simp [errW_none, errW_some] <;> rfl) | (simp [*, errW_none, errW_some] <;> rfl), by repeat (first | (with_reducible first | exact HB.out | apply below_alloc | apply pw_below_drewN | apply below_drew1 | refine below_set ?_ GE142.out | refine below_set ?_ GE143.out) | exact HB.out)⟩
                · rw [if_neg c33] at H
                  have c33b0 : (a0_4 == a1_4) = false := beq_eq_false_iff_ne.mpr c33
                  have c33b1 : (a0_4 != a1_4) = true := bne_iff_ne.mpr c33
                  obtain rfl := Option.some.inj H
                  have hnb61 := NB142_143.out
                  have hnc61 := NB143_142.out
                  have hcz62_0 : wr.cell? ⟨gb142, 0, none⟩ = some (.slice A0_0 l0_0.length c0_0) := (blk_cell BK142.out 0).trans rfl
                  have hcz62_1 : wr.cell? ⟨gb142, 1, none⟩ = some (.int .i64 a0_1) := (blk_cell BK142.out 1).trans rfl
                  have hcz62_2 : wr.cell? ⟨gb142, 2, none⟩ = some (.int .i64 a0_2) := (blk_cell BK142.out 2).trans rfl
                  have hcz62_3 : wr.cell? ⟨gb142, 3, none⟩ = some (.int .i64 a0_3) := (blk_cell BK142.out 3).trans rfl
                  have hcz62_4 : wr.cell? ⟨gb142, 4, none⟩ = some (.int .i64 a0_4) := (blk_cell BK142.out 4).trans rfl
                  have hcz62_5 : wr.cell? ⟨gb142, 5, none⟩ = some (.int .i64 a0_5) := (blk_cell BK142.out 5).trans rfl
                  have hcz62_6 : wr.cell? ⟨gb142, 6, none⟩ = some (.int .i64 a0_6) := (blk_cell BK142.out 6).trans rfl
                  have hcz62_7 : wr.cell? ⟨gb142, 7, none⟩ = some (.int .i64 a0_7) := (blk_cell BK142.out 7).trans rfl
                  have hcz62_8 : wr.cell? ⟨gb142, 8, none⟩ = some (.int .i64 a0_8) := (blk_cell BK142.out 8).trans rfl
                  have hcz62_9 : wr.cell? ⟨gb142, 9, none⟩ = some (.int .i64 a0_9) := (blk_cell BK142.out 9).trans rfl
                  have hcz62_10 : wr.cell? ⟨gb142, 10, none⟩ = some (.int .i64 a0_10) := (blk_cell BK142.out 10).trans rfl
                  have hcz62_11 : wr.cell? ⟨gb142, 11, none⟩ = some (.int .u64 a0_11) := (blk_cell BK142.out 11).trans rfl
                  have hfz62_0 := blk_frozen BK142.out 0
                  have hfz62_1 := blk_frozen BK142.out 1
                  have hfz62_2 := blk_frozen BK142.out 2
                  have hfz62_3 := blk_frozen BK142.out 3
                  have hfz62_4 := blk_frozen BK142.out 4
                  have hfz62_5 := blk_frozen BK142.out 5
                  have hfz62_6 := blk_frozen BK142.out 6
                  have hfz62_7 := blk_frozen BK142.out 7
                  have hfz62_8 := blk_frozen BK142.out 8
                  have hfz62_9 := blk_frozen BK142.out 9
                  have hfz62_10 := blk_frozen BK142.out 10
                  have hfz62_11 := blk_frozen BK142.out 11
                  have hcz63_0 : wr.cell? ⟨gb143, 0, none⟩ = some (.slice A1_0 l1_0.length c1_0) := (blk_cell BK143.out 0).trans rfl
                  have hcz63_1 : wr.cell? ⟨gb143, 1, none⟩ = some (.int .i64 a1_1) := (blk_cell BK143.out 1).trans rfl
                  have hcz63_2 : wr.cell? ⟨gb143, 2, none⟩ = some (.int .i64 a1_2) := (blk_cell BK143.out 2).trans rfl
                  have hcz63_3 : wr.cell? ⟨gb143, 3, none⟩ = some (.int .i64 a1_3) := (blk_cell BK143.out 3).trans rfl
                  have hcz63_4 : wr.cell? ⟨gb143, 4, none⟩ = some (.int .i64 a1_4) := (blk_cell BK143.out 4).trans rfl
                  have hcz63_5 : wr.cell? ⟨gb143, 5, none⟩ = some (.int .i64 a1_5) := (blk_cell BK143.out 5).trans rfl
                  have hcz63_6 : wr.cell? ⟨gb143, 6, none⟩ = some (.int .i64 a1_6) := (blk_cell BK143.out 6).trans rfl
                  have hcz63_7 : wr.cell? ⟨gb143, 7, none⟩ = some (.int .i64 a1_7) := (blk_cell BK143.out 7).trans rfl
                  have hcz63_8 : wr.cell? ⟨gb143, 8, none⟩ = some (.int .i64 a1_8) := (blk_cell BK143.out 8).trans rfl
                  have hcz63_9 : wr.cell? ⟨gb143, 9, none⟩ = some (.int .i64 a1_9) := (blk_cell BK143.out 9).trans rfl
                  have hcz63_10 : wr.cell? ⟨gb143, 10, none⟩ = some (.int .i64 a1_10) := (blk_cell BK143.out 10).trans rfl
                  have hcz63_11 : wr.cell? ⟨gb143, 11, none⟩ = some (.int .u64 a1_11) := (blk_cell BK143.out 11).trans rfl
                  have hfz63_0 := blk_frozen BK143.out 0
                  have hfz63_1 := blk_frozen BK143.out 1
                  have hfz63_2 := blk_frozen BK143.out 2
                  have hfz63_3 := blk_frozen BK143.out 3
                  have hfz63_4 := blk_frozen BK143.out 4
                  have hfz63_5 := blk_frozen BK143.out 5
                  have hfz63_6 := blk_frozen BK143.out 6
                  have hfz63_7 := blk_frozen BK143.out 7
                  have hfz63_8 := blk_frozen BK143.out 8
                  have hfz63_9 := blk_frozen BK143.out 9
                  have hfz63_10 := blk_frozen BK143.out 10
                  have hfz63_11 := blk_frozen BK143.out 11
                  go_wp2
                  repeat (go_quiet (fail); try go_wp2)
                  go_ret
                  exact ⟨by first | rfl | (simp [errW_none, errW_some] <;> rfl) | (simp [*, errW_none, errW_some] <;> rfl), by repeat (first | (with_reducible first | exact HB.out | apply below_alloc | apply pw_below_drewN | apply below_drew1 | refine below_set ?_ GE142.out | refine below_set ?_ GE143.out) | exact HB.out)⟩
              · rw [if_neg c32] at H
                have c32b0 : (a0_3 == a1_3) = false := beq_eq_false_iff_ne.mpr c32
                have c32b1 : (a0_3 != a1_3) = true := bne_iff_ne.mpr c32
                obtain rfl := Option.some.inj H
                have hnb64 := NB142_143.out
                have hnc64 := NB143_142.out
                have hcz65_0 : wr.cell? ⟨gb142, 0, none⟩ = some (.slice A0_0 l0_0.length c0_0) := (blk_cell BK142.out 0).trans rfl
                have hcz65_1 : wr.cell? ⟨gb142, 1, none⟩ = some (.int .i64 a0_1) := (blk_cell BK142.out 1).trans rfl
                have hcz65_2 : wr.cell? ⟨gb142, 2, none⟩ = some (.int .i64 a0_2) := (blk_cell BK142.out 2).trans rfl
                have hcz65_3 : wr.cell? ⟨gb142, 3, none⟩ = some (.int .i64 a0_3) := (blk_cell BK142.out 3).trans rfl
                have hcz65_4 : wr.cell? ⟨gb142, 4, none⟩ = some (.int .i64 a0_4) := (blk_cell BK142.out 4).trans rfl
                have hcz65_5 : wr.cell? ⟨gb142, 5, none⟩ = some (.int .i64 a0_5) := (blk_cell BK142.out 5).trans rfl
                have hcz65_6 : wr.cell? ⟨gb142, 6, none⟩ = some (.int .i64 a0_6) := (blk_cell BK142.out 6).trans rfl
                have hcz65_7 : wr.cell? ⟨gb142, 7, none⟩ = some (.int .i64 a0_7) := (blk_cell BK142.out 7).trans rfl
                have hcz65_8 : wr.cell? ⟨gb142, 8, none⟩ = some (.int .i64 a0_8) := (blk_cell BK142.out 8).trans rfl
                have hcz65_9 : wr.cell? ⟨gb142, 9, none⟩ = some (.int .i64 a0_9) := (blk_cell BK142.out 9).trans rfl
                have hcz65_10 : wr.cell? ⟨gb142, 10, none⟩ = some (.int .i64 a0_10) := (blk_cell BK142.out 10).trans rfl
                have hcz65_11 : wr.cell? ⟨gb142, 11, none⟩ = some (.int .u64 a0_11) := (blk_cell BK142.out 11).trans rfl
                have hfz65_0 := blk_frozen BK142.out 0
                have hfz65_1 := blk_frozen BK142.out 1
                have hfz65_2 := blk_frozen BK142.out 2
                have hfz65_3 := blk_frozen BK142.out 3
                have hfz65_4 := blk_frozen BK142.out 4
                have hfz65_5 := blk_frozen BK142.out 5
                have hfz65_6 := blk_frozen BK142.out 6
                have hfz65_7 := blk_frozen BK142.out 7
                have hfz65_8 := blk_frozen BK142.out 8
                have hfz65_9 := blk_frozen BK142.out 9
                have hfz65_10 := blk_frozen BK142.out 10
                have hfz65_11 := blk_frozen BK142.out 11
                have hcz66_0 : wr.cell? ⟨gb143, 0, none⟩ = some (.slice A1_0 l1_0.length c1_0) := (blk_cell BK143.out 0).trans rfl
                have hcz66_1 : wr.cell? ⟨gb143, 1, none⟩ = some (.int .i64 a1_1) := (blk_cell BK143.out 1).trans rfl
                have hcz66_2 : wr.cell? ⟨gb143, 2, none⟩ = some (.int .i64 a1_2) := (blk_cell BK143.out 2).trans rfl
                have hcz66_3 : wr.cell? ⟨gb143, 3, none⟩ = some (.int .i64 a1_3) := (blk_cell BK143.out 3).trans rfl
                have hcz66_4 : wr.cell? ⟨gb143, 4, none⟩ = some (.int .i64 a1_4) := (blk_cell BK143.out 4).trans rfl
                have hcz66_5 : wr.cell? ⟨gb143, 5, none⟩ = some (.int .i64 a1_5) := (blk_cell BK143.out 5).trans rfl
                have hcz66_6 : wr.cell? ⟨gb143, 6, none⟩ = some (.int .i64 a1_6) := (blk_cell BK143.out 6).trans rfl
                have hcz66_7 : wr.cell? ⟨gb143, 7, none⟩ = some (.int .i64 a1_7) := (blk_cell BK143.out 7).trans rfl
                have hcz66_8 : wr.cell? ⟨gb143, 8, none⟩ = some (.int .i64 a1_8) := (blk_cell BK143.out 8).trans rfl
                have hcz66_9 : wr.cell? ⟨gb143, 9, none⟩ = some (.int .i64 a1_9) := (blk_cell BK143.out 9).trans rfl
                have hcz66_10 : wr.cell? ⟨gb143, 10, none⟩ = some (.int .i64 a1_10) := (blk_cell BK143.out 10).trans rfl
                have hcz66_11 : wr.cell? ⟨gb143, 11, none⟩ = some (.int .u64 a1_11) := (blk_cell BK143.out 11).trans rfl
                have hfz66_0 := blk_frozen BK143.out 0
                have hfz66_1 := blk_frozen BK143.out 1
                have hfz66_2 := blk_frozen BK143.out 2
                have hfz66_3 := blk_frozen BK143.out 3
                have hfz66_4 := blk_frozen BK143.out 4
                have hfz66_5 := blk_frozen BK143.out 5
                have hfz66_6 := blk_frozen BK143.out 6
                have hfz66_7 := blk_frozen BK143.out 7
                have hfz66_8 := blk_frozen BK143.out 8
                have hfz66_9 := blk_frozen BK143.out 9
                have hfz66_10 := blk_frozen BK143.out 10
                have hfz66_11 := blk_frozen BK143.out 11
                go_wp2
                repeat (go_quiet (fail); try go_wp2)
                go_ret
                exact ⟨by first | rfl | (simp [errW_none, errW_some] <;> rfl) | (simp [*, errW_none, errW_some] <;> rfl), by repeat (first | (with_reducible first | exact HB.out | apply below_alloc | apply pw_below_drewN | apply below_drew1 | refine below_set ?_ GE142.out | refine below_set ?_ GE143.out) | exact HB.out)⟩
            · rw [if_neg c31] at H
              have c31b0 : (a0_2 == a1_2) = false := beq_eq_false_iff_ne.mpr c31
              have c31b1 : (a0_2 != a1_2) = true := bne_iff_ne.mpr c31
              obtain rfl := Option.some.inj H
              have hnb67 := NB142_143.out
              have hnc67 := NB143_142.out
              have hcz68_0 : wr.cell? ⟨gb142, 0, none⟩ = some (.slice A0_0 l0_0.length c0_0) := (blk_cell BK142.out 0).trans rfl
              have hcz68_1 : wr.cell? ⟨gb142, 1, none⟩ = some (.int .i64 a0_1) := (blk_cell BK142.out 1).trans rfl
              have hcz68_2 : wr.cell? ⟨gb142, 2, none⟩ = some (.int .i64 a0_2) := (blk_cell BK142.out 2).trans rfl
              have hcz68_3 : wr.cell? ⟨gb142, 3, none⟩ = some (.int .i64 a0_3) := (blk_cell BK142.out 3).trans rfl
              have hcz68_4 : wr.cell? ⟨gb142, 4, none⟩ = some (.int .i64 a0_4) := (blk_cell BK142.out 4).trans rfl
              have hcz68_5 : wr.cell? ⟨gb142, 5, none⟩ = some (.int .i64 a0_5) := (blk_cell BK142.out 5).trans rfl
              have hcz68_6 : wr.cell? ⟨gb142, 6, none⟩ = some (.int .i64 a0_6) := (blk_cell BK142.out 6).trans rfl
              have hcz68_7 : wr.cell? ⟨gb142, 7, none⟩ = some (.int .i64 a0_7) := (blk_cell BK142.out 7).trans rfl
              have hcz68_8 : wr.cell? ⟨gb142, 8, none⟩ = some (.int .i64 a0_8) := (blk_cell BK142.out 8).trans rfl
              have hcz68_9 : wr.cell? ⟨gb142, 9, none⟩ = some (.int .i64 a0_9) := (blk_cell BK142.out 9).trans rfl
              have hcz68_10 : wr.cell? ⟨gb142, 10, none⟩ = some (.int .i64 a0_10) := (blk_cell BK142.out 10).trans rfl
              have hcz68_11 : wr.cell? ⟨gb142, 11, none⟩ = some (.int .u64 a0_11) := (blk_cell BK142.out 11).trans rfl
              have hfz68_0 := blk_frozen BK142.out 0
              have hfz68_1 := blk_frozen BK142.out 1
              have hfz68_2 := blk_frozen BK142.out 2
              have hfz68_3 := blk_frozen BK142.out 3
              have hfz68_4 := blk_frozen BK142.out 4
              have hfz68_5 := blk_frozen BK142.out 5
              have hfz68_6 := blk_frozen BK142.out 6
              have hfz68_7 := blk_frozen BK142.out 7
              have hfz68_8 := blk_frozen BK142.out 8
              have hfz68_9 := blk_frozen BK142.out 9
              have hfz68_10 := blk_frozen BK142.out 10
              have hfz68_11 := blk_frozen BK142.out 11
              have hcz69_0 : wr.cell? ⟨gb143, 0, none⟩ = some (.slice A1_0 l1_0.length c1_0) := (blk_cell BK143.out 0).trans rfl
              have hcz69_1 : wr.cell? ⟨gb143, 1, none⟩ = some (.int .i64 a1_1) := (blk_cell BK143.out 1).trans rfl
              have hcz69_2 : wr.cell? ⟨gb143, 2, none⟩ = some (.int .i64 a1_2) := (blk_cell BK143.out 2).trans rfl
              have hcz69_3 : wr.cell? ⟨gb143, 3, none⟩ = some (.int .i64 a1_3) := (blk_cell BK143.out 3).trans rfl
              have hcz69_4 : wr.cell? ⟨gb143, 4, none⟩ = some (.int .i64 a1_4) := (blk_cell BK143.out 4).trans rfl
              have hcz69_5 : wr.cell? ⟨gb143, 5, none⟩ = some (.int .i64 a1_5) := (blk_cell BK143.out 5).trans rfl
              have hcz69_6 : wr.cell? ⟨gb143, 6, none⟩ = some (.int .i64 a1_6) := (blk_cell BK143.out 6).trans rfl
              have hcz69_7 : wr.cell? ⟨gb143, 7, none⟩ = some (.int .i64 a1_7) := (blk_cell BK143.out 7).trans rfl
              have hcz69_8 : wr.cell? ⟨gb143, 8, none⟩ = some (.int .i64 a1_8) := (blk_cell BK143.out 8).trans rfl
              have hcz69_9 : wr.cell? ⟨gb143, 9, none⟩ = some (.int .i64 a1_9) := (blk_cell BK143.out 9).trans rfl
              have hcz69_10 : wr.cell? ⟨gb143, 10, none⟩ = some (.int .i64 a1_10) := (blk_cell BK143.out 10).trans rfl
              have hcz69_11 : wr.cell? ⟨gb143, 11, none⟩ = some (.int .u64 a1_11) := (blk_cell BK143.out 11).trans rfl
              have hfz69_0 := blk_frozen BK143.out 0
              have hfz69_1 := blk_frozen BK143.out 1
              have hfz69_2 := blk_frozen BK143.out 2
              have hfz69_3 := blk_frozen BK143.out 3
              have hfz69_4 := blk_frozen BK143.out 4
              have hfz69_5 := blk_frozen BK143.out 5
              have hfz69_6 := blk_frozen BK143.out 6
              have hfz69_7 := blk_frozen BK143.out 7
              have hfz69_8 := blk_frozen BK143.out 8
              have hfz69_9 := blk_frozen BK143.out 9
              have hfz69_10 := blk_frozen BK143.out 10
              have hfz69_11 := blk_frozen BK143.out 11
              go_wp2
              repeat (go_quiet (fail); try go_wp2)
              go_ret
              exact ⟨by first | rfl | (simp [errW_none, errW_some] <;> rfl) | (simp [*, errW_none, errW_some] <;> rfl), by repeat (first | (with_reducible first | exact HB.out | apply below_alloc | apply pw_below_drewN | apply below_drew1 | refine below_set ?_ GE142.out | refine below_set ?_ GE143.out) | exact HB.out)⟩
          · rw [if_neg c30] at H
            have c30b0 : (a0_1 == a1_1) = false := beq_eq_false_iff_ne.mpr c30
            have c30b1 : (a0_1 != a1_1) = true := bne_iff_ne.mpr c30
            obtain rfl := Option.some.inj H
            have hnb70 := NB142_143.out
            have hnc70 := NB143_142.out
            have hcz71_0 : wr.cell? ⟨gb142, 0, none⟩ = some (.slice A0_0 l0_0.length c0_0) := (blk_cell BK142.out 0).trans rfl
            have hcz71_1 : wr.cell? ⟨gb142, 1, none⟩ = some (.int .i64 a0_1) := (blk_cell BK142.out 1).trans rfl
            have hcz71_2 : wr.cell? ⟨gb142, 2, none⟩ = some (.int .i64 a0_2) := (blk_cell BK142.out 2).trans rfl
            have hcz71_3 : wr.cell? ⟨gb142, 3, none⟩ = some (.int .i64 a0_3) := (blk_cell BK142.out 3).trans rfl
            have hcz71_4 : wr.cell? ⟨gb142, 4, none⟩ = some (.int .i64 a0_4) := (blk_cell BK142.out 4).trans rfl
            have hcz71_5 : wr.cell? ⟨gb142, 5, none⟩ = some (.int .i64 a0_5) := (blk_cell BK142.out 5).trans rfl
            have hcz71_6 : wr.cell? ⟨gb142, 6, none⟩ = some (.int .i64 a0_6) := (blk_cell BK142.out 6).trans rfl
            have hcz71_7 : wr.cell? ⟨gb142, 7, none⟩ = some (.int .i64 a0_7) := (blk_cell BK142.out 7).trans rfl
            have hcz71_8 : wr.cell? ⟨gb142, 8, none⟩ = some (.int .i64 a0_8) := (blk_cell BK142.out 8).trans rfl
            have hcz71_9 : wr.cell? ⟨gb142, 9, none⟩ = some (.int .i64 a0_9) := (blk_cell BK142.out 9).trans rfl
            have hcz71_10 : wr.cell? ⟨gb142, 10, none⟩ = some (.int .i64 a0_10) := (blk_cell BK142.out 10).trans rfl
            have hcz71_11 : wr.cell? ⟨gb142, 11, none⟩ = some (.int .u64 a0_11) := (blk_cell BK142.out 11).trans rfl
            have hfz71_0 := blk_frozen BK142.out 0
            have hfz71_1 := blk_frozen BK142.out 1
            have hfz71_2 := blk_frozen BK142.out 2
            have hfz71_3 := blk_frozen BK142.out 3
            have hfz71_4 := blk_frozen BK142.out 4
            have hfz71_5 := blk_frozen BK142.out 5
            have hfz71_6 := blk_frozen BK142.out 6
            have hfz71_7 := blk_frozen BK142.out 7
            have hfz71_8 := blk_frozen BK142.out 8
            have hfz71_9 := blk_frozen BK142.out 9
            have hfz71_10 := blk_frozen BK142.out 10
            have hfz71_11 := blk_frozen BK142.out 11
            have hcz72_0 : wr.cell? ⟨gb143, 0, none⟩ = some (.slice A1_0 l1_0.length c1_0) := (blk_cell BK143.out 0).trans rfl
            have hcz72_1 : wr.cell? ⟨gb143, 1, none⟩ = some (.int .i64 a1_1) := (blk_cell BK143.out 1).trans rfl
            have hcz72_2 : wr.cell? ⟨gb143, 2, none⟩ = some (.int .i64 a1_2) := (blk_cell BK143.out 2).trans rfl
            have hcz72_3 : wr.cell? ⟨gb143, 3, none⟩ = some (.int .i64 a1_3) := (blk_cell BK143.out 3).trans rfl
            have hcz72_4 : wr.cell? ⟨gb143, 4, none⟩ = some (.int .i64 a1_4) := (blk_cell BK143.out 4).trans rfl
            have hcz72_5 : wr.cell? ⟨gb143, 5, none⟩ = some (.int .i64 a1_5) := (blk_cell BK143.out 5).trans rfl
            have hcz72_6 : wr.cell? ⟨gb143, 6, none⟩ = some (.int .i64 a1_6) := (blk_cell BK143.out 6).trans rfl
            have hcz72_7 : wr.cell? ⟨gb143, 7, none⟩ = some (.int .i64 a1_7) := (blk_cell BK143.out 7).trans rfl
            have hcz72_8 : wr.cell? ⟨gb143, 8, none⟩ = some (.int .i64 a1_8) := (blk_cell BK143.out 8).trans rfl
            have hcz72_9 : wr.cell? ⟨gb143, 9, none⟩ = some (.int .i64 a1_9) := (blk_cell BK143.out 9).trans rfl
            have hcz72_10 : wr.cell? ⟨gb143, 10, none⟩ = some (.int .i64 a1_10) := (blk_cell BK143.out 10).trans rfl
            have hcz72_11 : wr.cell? ⟨gb143, 11, none⟩ = some (.int .u64 a1_11) := (blk_cell BK143.out 11).trans rfl
            have hfz72_0 := blk_frozen BK143.out 0
            have hfz72_1 := blk_frozen BK143.out 1
            have hfz72_2 := blk_frozen BK143.out 2
            have hfz72_3 := blk_frozen BK143.out 3
            have hfz72_4 := blk_frozen BK143.out 4
            have hfz72_5 := blk_frozen BK143.out 5
            have hfz72_6 := blk_frozen BK143.out 6
            have hfz72_7 := blk_frozen BK143.out 7
            have hfz72_8 := blk_frozen BK143.out 8
            have hfz72_9 := blk_frozen BK143.out 9
            have hfz72_10 := blk_frozen BK143.out 10
            have hfz72_11 := blk_frozen BK143.out 11
            go_wp2
            repeat (go_quiet (fail); try go_wp2)
            go_ret
            exact ⟨by first | rfl | (simp [errW_none, errW_some] <;> rfl) | (simp [*, errW_none, errW_some] <;> rfl), by repeat (first | (with_reducible first | exact HB.out | apply below_alloc | apply pw_below_drewN | apply below_drew1 | refine below_set ?_ GE142.out | refine below_set ?_ GE143.out) | exact HB.out)⟩
  · rw [if_neg c3] at H
    have c3b0 : ((l0_0.length : Int) == (l1_0.length : Int)) = false := beq_eq_false_iff_ne.mpr c3
    have c3b1 : ((l0_0.length : Int) != (l1_0.length : Int)) = true := bne_iff_ne.mpr c3
    have c3b2 : (l0_0.length == l1_0.length) = false := by first | simpa using c3 | (simp at c3 ⊢; omega)
    obtain rfl := Option.some.inj H
    go_enter Try.func9, Try.ntmps9
    go_wp2_with (first | ((with_reducible refine gate_dst (N := 2) rfl ?_); refine box_event ?hg (N := 2) ?hd (cs := #[.slice A0_0 l0_0.length c0_0, .int .i64 a0_1, .int .i64 a0_2, .int .i64 a0_3, .int .i64 a0_4, .int .i64 a0_5, .int .i64 a0_6, .int .i64 a0_7, .int .i64 a0_8, .int .i64 a0_9, .int .i64 a0_10, .int .u64 a0_11]) (t := 25) ?hr ?_; (case hd => rfl); (case hg => rfl); (case hr => first | (go_simp; done) | (go_simp; rfl)); intro gb142 hg w73 hbox hb; have n0_ := Aside0.mk (below_step (by repeat (first | (with_reducible first | exact HB.out | apply below_alloc | apply pw_below_drewN | apply below_drew1) | exact HB.out)) hb); have n1_ := Aside0.mk (hbox); have n2_ := Aside0.mk ((by rw [hg]; exact (below_size (by repeat (first | (with_reducible first | exact HB.out | apply below_alloc | apply pw_below_drewN | apply below_drew1) | exact HB.out))) : w.heap.size ≤ gb142)); have n3_ := Aside0.mk ((by rw [hg]; exact (below_size (by repeat (first | (with_reducible first | exact HB.out | apply below_alloc | apply pw_below_drewN | apply below_drew1) | exact HB.out))) : w.heap.size ≤ gb142)); clear HB; have HB := n0_; have BK142 := n1_; have GW142 := n2_; have GE142 := n3_; clear n0_ n1_ n2_ n3_; clear hb hbox hg) | ((with_reducible refine gate_dst (N := 3) rfl ?_); refine box_event ?hg (N := 3) ?hd (cs := #[.slice A1_0 l1_0.length c1_0, .int .i64 a1_1, .int .i64 a1_2, .int .i64 a1_3, .int .i64 a1_4, .int .i64 a1_5, .int .i64 a1_6, .int .i64 a1_7, .int .i64 a1_8, .int .i64 a1_9, .int .i64 a1_10, .int .u64 a1_11]) (t := 25) ?hr ?_; (case hd => rfl); (case hg => rfl); (case hr => first | (go_simp; done) | (go_simp; rfl)); intro gb143 hg w74 hbox hb; have n0_ := Aside0.mk (blk_below (g := gb142) (o := .cells #[.slice A0_0 l0_0.length c0_0, .int .i64 a0_1, .int .i64 a0_2, .int .i64 a0_3, .int .i64 a0_4, .int .i64 a0_5, .int .i64 a0_6, .int .i64 a0_7, .int .i64 a0_8, .int .i64 a0_9, .int .i64 a0_10, .int .u64 a0_11] 25 (0, 0)) (by (with_reducible repeat (first | refine blk_drewN ?_ _ | refine blk_drew ?_ | refine blk_alloc ?_ _)); exact BK142.out) hb); have n1_ := Aside0.mk (below_step (by repeat (first | (with_reducible first | exact HB.out | apply below_alloc | apply pw_below_drewN | apply below_drew1 | refine below_set ?_ GE142.out) | exact HB.out)) hb); have n2_ := Aside0.mk (hbox); have n3_ := Aside0.mk ((by rw [hg]; exact (below_size (by repeat (first | (with_reducible first | exact HB.out | apply below_alloc | apply pw_below_drewN | apply below_drew1 | refine below_set ?_ GE142.out) | exact HB.out))) : w.heap.size ≤ gb143)); have n4_ := Aside0.mk ((by rw [hg]; exact (below_size (by repeat (first | (with_reducible first | exact HB.out | apply below_alloc | apply pw_below_drewN | apply below_drew1 | refine below_set ?_ GE142.out) | exact HB.out))) : w.heap.size ≤ gb143)); have n5_ := Aside0.mk ((by rw [hg]; exact Nat.ne_of_lt (blk_lt (g := gb142) (o := .cells #[.slice A0_0 l0_0.length c0_0, .int .i64 a0_1, .int .i64 a0_2, .int .i64 a0_3, .int .i64 a0_4, .int .i64 a0_5, .int .i64 a0_6, .int .i64 a0_7, .int .i64 a0_8, .int .i64 a0_9, .int .i64 a0_10, .int .u64 a0_11] 25 (0, 0)) (by (with_reducible repeat (first | refine blk_drewN ?_ _ | refine blk_drew ?_ | refine blk_alloc ?_ _)); exact BK142.out)) : gb142 ≠ gb143)); have n6_ := Aside0.mk ((by rw [hg]; exact Nat.ne_of_gt (blk_lt (g := gb142) (o := .cells #[.slice A0_0 l0_0.length c0_0, .int .i64 a0_1, .int .i64 a0_2, .int .i64 a0_3, .int .i64 a0_4, .int .i64 a0_5, .int .i64 a0_6, .int .i64 a0_7, .int .i64 a0_8, .int .i64 a0_9, .int .i64 a0_10, .int .u64 a0_11] 25 (0, 0)) (by (with_reducible repeat (first | refine blk_drewN ?_ _ | refine blk_drew ?_ | refine blk_alloc ?_ _)); exact BK142.out)) : gb143 ≠ gb142)); clear BK142; clear HB; have BK142 := n0_; have HB := n1_; have BK143 := n2_; have GW143 := n3_; have GE143 := n4_; have NB142_143 := n5_; have NB143_142 := n6_; clear n0_ n1_ n2_ n3_ n4_ n5_ n6_; clear hb hbox hg; have hnb75 := NB142_143.out; have hnc75 := NB143_142.out; have hcz76_0 : w74.cell? ⟨gb142, 0, none⟩ = some (.slice A0_0 l0_0.length c0_0) := (blk_cell BK142.out 0).trans rfl; have hcz76_1 : w74.cell? ⟨gb142, 1, none⟩ = some (.int .i64 a0_1) := (blk_cell BK142.out 1).trans rfl; have hcz76_2 : w74.cell? ⟨gb142, 2, none⟩ = some (.int .i64 a0_2) := (blk_cell BK142.out 2).trans rfl; have hcz76_3 : w74.cell? ⟨gb142, 3, none⟩ = some (.int .i64 a0_3) := (blk_cell BK142.out 3).trans rfl; have hcz76_4 : w74.cell? ⟨gb142, 4, none⟩ = some (.int .i64 a0_4) := (blk_cell BK142.out 4).trans rfl; have hcz76_5 : w74.cell? ⟨gb142, 5, none⟩ = some (.int .i64 a0_5) := (blk_cell BK142.out 5).trans rfl; have hcz76_6 : w74.cell? ⟨gb142, 6, none⟩ = some (.int .i64 a0_6) := (blk_cell BK142.out 6).trans rfl; have hcz76_7 : w74.cell? ⟨gb142, 7, none⟩ = some (.int .i64 a0_7) := (blk_cell BK142.out 7).trans rfl; have hcz76_8 : w74.cell? ⟨gb142, 8, none⟩ = some (.int .i64 a0_8) := (blk_cell BK142.out 8).trans rfl; have hcz76_9 : w74.cell? ⟨gb142, 9, none⟩ = some (.int .i64 a0_9) := (blk_cell BK142.out 9).trans rfl; have hcz76_10 : w74.cell? ⟨gb142, 10, none⟩ = some (.int .i64 a0_10) := (blk_cell BK142.out 10).trans rfl; have hcz76_11 : w74.cell? ⟨gb142, 11, none⟩ = some (.int .u64 a0_11) := (blk_cell BK142.out 11).trans rfl; have hfz76_0 := blk_frozen BK142.out 0; have hfz76_1 := blk_frozen BK142.out 1; have hfz76_2 := blk_frozen BK142.out 2; have hfz76_3 := blk_frozen BK142.out 3; have hfz76_4 := blk_frozen BK142.out 4; have hfz76_5 := blk_frozen BK142.out 5; have hfz76_6 := blk_frozen BK142.out 6; have hfz76_7 := blk_frozen BK142.out 7; have hfz76_8 := blk_frozen BK142.out 8; have hfz76_9 := blk_frozen BK142.out 9; have hfz76_10 := blk_frozen BK142.out 10; have hfz76_11 := blk_frozen BK142.out 11; have hcz77_0 : w74.cell? ⟨gb143, 0, none⟩ = some (.slice A1_0 l1_0.length c1_0) := (blk_cell BK143.out 0).trans rfl; have hcz77_1 : w74.cell? ⟨gb143, 1, none⟩ = some (.int .i64 a1_1) := (blk_cell BK143.out 1).trans rfl; have hcz77_2 : w74.cell? ⟨gb143, 2, none⟩ = some (.int .i64 a1_2) := (blk_cell BK143.out 2).trans rfl; have hcz77_3 : w74.cell? ⟨gb143, 3, none⟩ = some (.int .i64 a1_3) := (blk_cell BK143.out 3).trans rfl; have hcz77_4 : w74.cell? ⟨gb143, 4, none⟩ = some (.int .i64 a1_4) := (blk_cell BK143.out 4).trans rfl; have hcz77_5 : w74.cell? ⟨gb143, 5, none⟩ = some (.int .i64 a1_5) := (blk_cell BK143.out 5).trans rfl; have hcz77_6 : w74.cell? ⟨gb143, 6, none⟩ = some (.int .i64 a1_6) := (blk_cell BK143.out 6).trans rfl; have hcz77_7 : w74.cell? ⟨gb143, 7, none⟩ = some (.int .i64 a1_7) := (blk_cell BK143.out 7).trans rfl; have hcz77_8 : w74.cell? ⟨gb143, 8, none⟩ = some (.int .i64 a1_8) := (blk_cell BK143.out 8).trans rfl; have hcz77_9 : w74.cell? ⟨gb143, 9, none⟩ = some (.int .i64 a1_9) := (blk_cell BK143.out 9).trans rfl; have hcz77_10 : w74.cell? ⟨gb143, 10, none⟩ = some (.int .i64 a1_10) := (blk_cell BK143.out 10).trans rfl; have hcz77_11 : w74.cell? ⟨gb143, 11, none⟩ = some (.int .u64 a1_11) := (blk_cell BK143.out 11).trans rfl; have hfz77_0 := blk_frozen BK143.out 0; have hfz77_1 := blk_frozen BK143.out 1; have hfz77_2 := blk_frozen BK143.out 2; have hfz77_3 := blk_frozen BK143.out 3; have hfz77_4 := blk_frozen BK143.out 4; have hfz77_5 := blk_frozen BK143.out 5; have hfz77_6 := blk_frozen BK143.out 6; have hfz77_7 := blk_frozen BK143.out 7; have hfz77_8 := blk_frozen BK143.out 8; have hfz77_9 := blk_frozen BK143.out 9; have hfz77_10 := blk_frozen BK143.out 10; have hfz77_11 := blk_frozen BK143.out 11))
    repeat (go_quiet (first | ((with_reducible refine gate_dst (N := 2) rfl ?_); refine box_event ?hg (N := 2) ?hd (cs := #[.slice A0_0 l0_0.length c0_0, .int .i64 a0_1, .int .i64 a0_2, .int .i64 a0_3, .int .i64 a0_4, .int .i64 a0_5, .int .i64 a0_6, .int .i64 a0_7, .int .i64 a0_8, .int .i64 a0_9, .int .i64 a0_10, .int .u64 a0_11]) (t := 25) ?hr ?_; (case hd => rfl); (case hg => rfl); (case hr => first | (go_simp; done) | (go_simp; rfl)); intro gb142 hg w73 hbox hb; have n0_ := Aside0.mk (below_step (by repeat (first | (with_reducible first | exact HB.out | apply below_alloc | apply pw_below_drewN | apply below_drew1) | exact HB.out)) hb); have n1_ := Aside0.mk (hbox); have n2_ := Aside0.mk ((by rw [hg]; exact (below_size (by repeat (first | (with_reducible first | exact HB.out | apply below_alloc | apply pw_below_drewN | apply below_drew1) | exact HB.out))) : w.heap.size ≤ gb142)); have n3_ := Aside0.mk ((by rw [hg]; exact (below_size (by repeat (first | (with_reducible first | exact HB.out | apply below_alloc | apply pw_below_drewN | apply below_drew1) | exact HB.out))) : w.heap.size ≤ gb142)); clear HB; have HB := n0_; have BK142 := n1_; have GW142 := n2_; have GE142 := n3_; clear n0_ n1_ n2_ n3_; clear hb hbox hg) | ((with_reducible refine gate_dst (N := 3) rfl ?_); refine box_event ?hg (N := 3) ?hd (cs := #[.slice A1_0 l1_0.length c1_0, .int .i64 a1_1, .int .i64 a1_2, .int .i64 a1_3, .int .i64 a1_4, .int .i64 a1_5, .int .i64 a1_6, .int .i64 a1_7, .int .i64 a1_8, .int .i64 a1_9, .int .i64 a1_10, .int .u64 a1_11]) (t := 25) ?hr ?_; (case hd => rfl); (case hg => rfl); (case hr => first | (go_simp; done) | (go_simp; rfl)); intro gb143 hg w74 hbox hb; have n0_ := Aside0.mk (blk_below (g := gb142) (o := .cells #[.slice A0_0 l0_0.length c0_0, .int .i64 a0_1, .int .i64 a0_2, .int .i64 a0_3, .int .i64 a0_4, .int .i64 a0_5, .int .i64 a0_6, .int .i64 a0_7, .int .i64 a0_8, .int .i64 a0_9, .int .i64 a0_10, .int .u64 a0_11] 25 (0, 0)) (by (with_reducible repeat (first | refine blk_drewN ?_ _ | refine blk_drew ?_ | refine blk_alloc ?_ _)); exact BK142.out) hb); have n1_ := Aside0.mk (below_step (by repeat (first | (with_reducible first | exact HB.out | apply below_alloc | apply pw_below_drewN | apply below_drew1 | refine below_set ?_ GE142.out) | exact HB.out)) hb); have n2_ := Aside0.mk (hbox); have n3_ := Aside0.mk ((by rw [hg]; exact (below_size (by repeat (first | (with_reducible first | exact HB.out | apply below_alloc | apply pw_below_drewN | apply below_drew1 | refine below_set ?_ GE142.out) | exact HB.out))) : w.heap.size ≤ gb143)); have n4_ := Aside0.mk ((by rw [hg]; exact (below_size (by repeat (first | (with_reducible first | exact HB.out | apply below_alloc | apply pw_below_drewN | apply below_drew1 | refine below_set ?_ GE142.out) | exact HB.out))) : w.heap.size ≤ gb143)); have n5_ := Aside0.mk ((by rw [hg]; exact Nat.ne_of_lt (blk_lt (g := gb142) (o := .cells #[.slice A0_0 l0_0.length c0_0, .int .i64 a0_1, .int .i64 a0_2, .int .i64 a0_3, .int .i64 a0_4, .int .i64 a0_5, .int .i64 a0_6, .int .i64 a0_7, .int .i64 a0_8, .int .i64 a0_9, .int .i64 a0_10, .int .u64 a0_11] 25 (0, 0)) (by (with_reducible repeat (first | refine blk_drewN ?_ _ | refine blk_drew ?_ | refine blk_alloc ?_ _)); exact BK142.out)) : gb142 ≠ gb143)); have n6_ := Aside0.mk ((by rw [hg]; exact Nat.ne_of_gt (blk_lt (g := gb142) (o := .cells #[.slice A0_0 l0_0.length c0_0, .int .i64 a0_1, .int .i64 a0_2, .int .i64 a0_3, .int .i64 a0_4, .int .i64 a0_5, .int .i64 a0_6, .int .i64 a0_7, .int .i64 a0_8, .int .i64 a0_9, .int .i64 a0_10, .int .u64 a0_11] 25 (0, 0)) (by (with_reducible repeat (first | refine blk_drewN ?_ _ | refine blk_drew ?_ | refine blk_alloc ?_ _)); exact BK142.out)) : gb143 ≠ gb142)); clear BK142; clear HB; have BK142 := n0_; have HB := n1_; have BK143 := n2_; have GW143 := n3_; have GE143 := n4_; have NB142_143 := n5_; have NB143_142 := n6_; clear n0_ n1_ n2_ n3_ n4_ n5_ n6_; clear hb hbox hg; have hnb75 := NB142_143.out; have hnc75 := NB143_142.out; have hcz76_0 : w74.cell? ⟨gb142, 0, none⟩ = some (.slice A0_0 l0_0.length c0_0) := (blk_cell BK142.out 0).trans rfl; have hcz76_1 : w74.cell? ⟨gb142, 1, none⟩ = some (.int .i64 a0_1) := (blk_cell BK142.out 1).trans rfl; have hcz76_2 : w74.cell? ⟨gb142, 2, none⟩ = some (.int .i64 a0_2) := (blk_cell BK142.out 2).trans rfl; have hcz76_3 : w74.cell? ⟨gb142, 3, none⟩ = some (.int .i64 a0_3) := (blk_cell BK142.out 3).trans rfl; have hcz76_4 : w74.cell? ⟨gb142, 4, none⟩ = some (.int .i64 a0_4) := (blk_cell BK142.out 4).trans rfl; have hcz76_5 : w74.cell? ⟨gb142, 5, none⟩ = some (.int .i64 a0_5) := (blk_cell BK142.out 5).trans rfl; have hcz76_6 : w74.cell? ⟨gb142, 6, none⟩ = some (.int .i64 a0_6) := (blk_cell BK142.out 6).trans rfl; have hcz76_7 : w74.cell? ⟨gb142, 7, none⟩ = some (.int .i64 a0_7) := (blk_cell BK142.out 7).trans rfl; have hcz76_8 : w74.cell? ⟨gb142, 8, none⟩ = some (.int .i64 a0_8) := (blk_cell BK142.out 8).trans rfl; have hcz76_9 : w74.cell? ⟨gb142, 9, none⟩ = some (.int .i64 a0_9) := (blk_cell BK142.out 9).trans rfl; have hcz76_10 : w74.cell? ⟨gb142, 10, none⟩ = some (.int .i64 a0_10) := (blk_cell BK142.out 10).trans rfl; have hcz76_11 : w74.cell? ⟨gb142, 11, none⟩ = some (.int .u64 a0_11) := (blk_cell BK142.out 11).trans rfl; have hfz76_0 := blk_frozen BK142.out 0; have hfz76_1 := blk_frozen BK142.out 1; have hfz76_2 := blk_frozen BK142.out 2; have hfz76_3 := blk_frozen BK142.out 3; have hfz76_4 := blk_frozen BK142.out 4; have hfz76_5 := blk_frozen BK142.out 5; have hfz76_6 := blk_frozen BK142.out 6; have hfz76_7 := blk_frozen BK142.out 7; have hfz76_8 := blk_frozen BK142.out 8; have hfz76_9 := blk_frozen BK142.out 9; have hfz76_10 := blk_frozen BK142.out 10; have hfz76_11 := blk_frozen BK142.out 11; have hcz77_0 : w74.cell? ⟨gb143, 0, none⟩ = some (.slice A1_0 l1_0.length c1_0) := (blk_cell BK143.out 0).trans rfl; have hcz77_1 : w74.cell? ⟨gb143, 1, none⟩ = some (.int .i64 a1_1) := (blk_cell BK143.out 1).trans rfl; have hcz77_2 : w74.cell? ⟨gb143, 2, none⟩ = some (.int .i64 a1_2) := (blk_cell BK143.out 2).trans rfl; have hcz77_3 : w74.cell? ⟨gb143, 3, none⟩ = some (.int .i64 a1_3) := (blk_cell BK143.out 3).trans rfl; have hcz77_4 : w74.cell? ⟨gb143, 4, none⟩ = some (.int .i64 a1_4) := (blk_cell BK143.out 4).trans rfl; have hcz77_5 : w74.cell? ⟨gb143, 5, none⟩ = some (.int .i64 a1_5) := (blk_cell BK143.out 5).trans rfl; have hcz77_6 : w74.cell? ⟨gb143, 6, none⟩ = some (.int .i64 a1_6) := (blk_cell BK143.out 6).trans rfl; have hcz77_7 : w74.cell? ⟨gb143, 7, none⟩ = some (.int .i64 a1_7) := (blk_cell BK143.out 7).trans rfl; have hcz77_8 : w74.cell? ⟨gb143, 8, none⟩ = some (.int .i64 a1_8) := (blk_cell BK143.out 8).trans rfl; have hcz77_9 : w74.cell? ⟨gb143, 9, none⟩ = some (.int .i64 a1_9) := (blk_cell BK143.out 9).trans rfl; have hcz77_10 : w74.cell? ⟨gb143, 10, none⟩ = some (.int .i64 a1_10) := (blk_cell BK143.out 10).trans rfl; have hcz77_11 : w74.cell? ⟨gb143, 11, none⟩ = some (.int .u64 a1_11) := (blk_cell BK143.out 11).trans rfl; have hfz77_0 := blk_frozen BK143.out 0; have hfz77_1 := blk_frozen BK143.out 1; have hfz77_2 := blk_frozen BK143.out 2; have hfz77_3 := blk_frozen BK143.out 3; have hfz77_4 := blk_frozen BK143.out 4; have hfz77_5 := blk_frozen BK143.out 5; have hfz77_6 := blk_frozen BK143.out 6; have hfz77_7 := blk_frozen BK143.out 7; have hfz77_8 := blk_frozen BK143.out 8; have hfz77_9 := blk_frozen BK143.out 9; have hfz77_10 := blk_frozen BK143.out 10; have hfz77_11 := blk_frozen BK143.out 11)); try go_wp2_with (first | ((with_reducible refine gate_dst (N := 2) rfl ?_); refine box_event ?hg (N := 2) ?hd (cs := #[.slice A0_0 l0_0.length c0_0, .int .i64 a0_1, .int .i64 a0_2, .int .i64 a0_3, .int .i64 a0_4, .int .i64 a0_5, .int .i64 a0_6, .int .i64 a0_7, .int .i64 a0_8, .int .i64 a0_9, .int .i64 a0_10, .int .u64 a0_11]) (t := 25) ?hr ?_; (case hd => rfl); (case hg => rfl); (case hr => first | (go_simp; done) | (go_simp; rfl)); intro gb142 hg w73 hbox hb; have n0_ := Aside0.mk (below_step (by repeat (first | (with_reducible first | exact HB.out | apply below_alloc | apply pw_below_drewN | apply below_drew1) | exact HB.out)) hb); have n1_ := Aside0.mk (hbox); have n2_ := Aside0.mk ((by rw [hg]; exact (below_size (by repeat (first | (with_reducible first | exact HB.out | apply below_alloc | apply pw_below_drewN | apply below_drew1) | exact HB.out))) : w.heap.size ≤ gb142)); have n3_ := Aside0.mk ((by rw [hg]; exact (below_size (by repeat (first | (with_reducible first | exact HB.out | apply below_alloc | apply pw_below_drewN | apply below_drew1) | exact HB.out))) : w.heap.size ≤ gb142)); clear HB; have HB := n0_; have BK142 := n1_; have GW142 := n2_; have GE142 := n3_; clear n0_ n1_ n2_ n3_; clear hb hbox hg) | ((with_reducible refine gate_dst (N := 3) rfl ?_); refine box_event ?hg (N := 3) ?hd (cs := #[.slice A1_0 l1_0.length c1_0, .int .i64 a1_1, .int .i64 a1_2, .int .i64 a1_3, .int .i64 a1_4, .int .i64 a1_5, .int .i64 a1_6, .int .i64 a1_7, .int .i64 a1_8, .int .i64 a1_9, .int .i64 a1_10, .int .u64 a1_11]) (t := 25) ?hr ?_; (case hd => rfl); (case hg => rfl); (case hr => first | (go_simp; done) | (go_simp; rfl)); intro gb143 hg w74 hbox hb; have n0_ := Aside0.mk (blk_below (g := gb142) (o := .cells #[.slice A0_0 l0_0.length c0_0, .int .i64 a0_1, .int .i64 a0_2, .int .i64 a0_3, .int .i64 a0_4, .int .i64 a0_5, .int .i64 a0_6, .int .i64 a0_7, .int .i64 a0_8, .int .i64 a0_9, .int .i64 a0_10, .int .u64 a0_11] 25 (0, 0)) (by (with_reducible repeat (first | refine blk_drewN ?_ _ | refine blk_drew ?_ | refine blk_alloc ?_ _)); exact BK142.out) hb); have n1_ := Aside0.mk (below_step (by repeat (first | (with_reducible first | exact HB.out | apply below_alloc | apply pw_below_drewN | apply below_drew1 | refine below_set ?_ GE142.out) | exact HB.out)) hb); have n2_ := Aside0.mk (hbox); have n3_ := Aside0.mk ((by rw [hg]; exact (below_size (by repeat (first | (with_reducible first | exact HB.out | apply below_alloc | apply pw_below_drewN | apply below_drew1 | refine below_set ?_ GE142.out) | exact HB.out))) : w.heap.size ≤ gb143)); have n4_ := Aside0.mk ((by rw [hg]; exact (below_size (by repeat (first | (with_reducible first | exact HB.out | apply below_alloc | apply pw_below_drewN | apply below_drew1 | refine below_set ?_ GE142.out) | exact HB.out))) : w.heap.size ≤ gb143)); have n5_ := Aside0.mk ((by rw [hg]; exact Nat.ne_of_lt (blk_lt (g := gb142) (o := .cells #[.slice A0_0 l0_0.length c0_0, .int .i64 a0_1, .int .i64 a0_2, .int .i64 a0_3, .int .i64 a0_4, .int .i64 a0_5, .int .i64 a0_6, .int .i64 a0_7, .int .i64 a0_8, .int .i64 a0_9, .int .i64 a0_10, .int .u64 a0_11] 25 (0, 0)) (by (with_reducible repeat (first | refine blk_drewN ?_ _ | refine blk_drew ?_ | refine blk_alloc ?_ _)); exact BK142.out)) : gb142 ≠ gb143)); have n6_ := Aside0.mk ((by rw [hg]; exact Nat.ne_of_gt (blk_lt (g := gb142) (o := .cells #[.slice A0_0 l0_0.length c0_0, .int .i64 a0_1, .int .i64 a0_2, .int .i64 a0_3, .int .i64 a0_4, .int .i64 a0_5, .int .i64 a0_6, .int .i64 a0_7, .int .i64 a0_8, .int .i64 a0_9, .int .i64 a0_10, .int .u64 a0_11] 25 (0, 0)) (by (with_reducible repeat (first | refine blk_drewN ?_ _ | refine blk_drew ?_ | refine blk_alloc ?_ _)); exact BK142.out)) : gb143 ≠ gb142)); clear BK142; clear HB; have BK142 := n0_; have HB := n1_; have BK143 := n2_; have GW143 := n3_; have GE143 := n4_; have NB142_143 := n5_; have NB143_142 := n6_; clear n0_ n1_ n2_ n3_ n4_ n5_ n6_; clear hb hbox hg; have hnb75 := NB142_143.out; have hnc75 := NB143_142.out; have hcz76_0 : w74.cell? ⟨gb142, 0, none⟩ = some (.slice A0_0 l0_0.length c0_0) := (blk_cell BK142.out 0).trans rfl; have hcz76_1 : w74.cell? ⟨gb142, 1, none⟩ = some (.int .i64 a0_1) := (blk_cell BK142.out 1).trans rfl; have hcz76_2 : w74.cell? ⟨gb142, 2, none⟩ = some (.int .i64 a0_2) := (blk_cell BK142.out 2).trans rfl; have hcz76_3 : w74.cell? ⟨gb142, 3, none⟩ = some (.int .i64 a0_3) := (blk_cell BK142.out 3).trans rfl; have hcz76_4 : w74.cell? ⟨gb142, 4, none⟩ = some (.int .i64 a0_4) := (blk_cell BK142.out 4).trans rfl; have hcz76_5 : w74.cell? ⟨gb142, 5, none⟩ = some (.int .i64 a0_5) := (blk_cell BK142.out 5).trans rfl; have hcz76_6 : w74.cell? ⟨gb142, 6, none⟩ = some (.int .i64 a0_6) := (blk_cell BK142.out 6).trans rfl; have hcz76_7 : w74.cell? ⟨gb142, 7, none⟩ = some (.int .i64 a0_7) := (blk_cell BK142.out 7).trans rfl; have hcz76_8 : w74.cell? ⟨gb142, 8, none⟩ = some (.int .i64 a0_8) := (blk_cell BK142.out 8).trans rfl; have hcz76_9 : w74.cell? ⟨gb142, 9, none⟩ = some (.int .i64 a0_9) := (blk_cell BK142.out 9).trans rfl; have hcz76_10 : w74.cell? ⟨gb142, 10, none⟩ = some (.int .i64 a0_10) := (blk_cell BK142.out 10).trans rfl; have hcz76_11 : w74.cell? ⟨gb142, 11, none⟩ = some (.int .u64 a0_11) := (blk_cell BK142.out 11).trans rfl; have hfz76_0 := blk_frozen BK142.out 0; have hfz76_1 := blk_frozen BK142.out 1; have hfz76_2 := blk_frozen BK142.out 2; have hfz76_3 := blk_frozen BK142.out 3; have hfz76_4 := blk_frozen BK142.out 4; have hfz76_5 := blk_frozen BK142.out 5; have hfz76_6 := blk_frozen BK142.out 6; have hfz76_7 := blk_frozen BK142.out 7; have hfz76_8 := blk_frozen BK142.out 8; have hfz76_9 := blk_frozen BK142.out 9; have hfz76_10 := blk_frozen BK142.out 10; have hfz76_11 := blk_frozen BK142.out 11; have hcz77_0 : w74.cell? ⟨gb143, 0, none⟩ = some (.slice A1_0 l1_0.length c1_0) := (blk_cell BK143.out 0).trans rfl; have hcz77_1 : w74.cell? ⟨gb143, 1, none⟩ = some (.int .i64 a1_1) := (blk_cell BK143.out 1).trans rfl; have hcz77_2 : w74.cell? ⟨gb143, 2, none⟩ = some (.int .i64 a1_2) := (blk_cell BK143.out 2).trans rfl; have hcz77_3 : w74.cell? ⟨gb143, 3, none⟩ = some (.int .i64 a1_3) := (blk_cell BK143.out 3).trans rfl; have hcz77_4 : w74.cell? ⟨gb143, 4, none⟩ = some (.int .i64 a1_4) := (blk_cell BK143.out 4).trans rfl; have hcz77_5 : w74.cell? ⟨gb143, 5, none⟩ = some (.int .i64 a1_5) := (blk_cell BK143.out 5).trans rfl; have hcz77_6 : w74.cell? ⟨gb143, 6, none⟩ = some (.int .i64 a1_6) := (blk_cell BK143.out 6).trans rfl; have hcz77_7 : w74.cell? ⟨gb143, 7, none⟩ = some (.int .i64 a1_7) := (blk_cell BK143.out 7).trans rfl; have hcz77_8 : w74.cell? ⟨gb143, 8, none⟩ = some (.int .i64 a1_8) := (blk_cell BK143.out 8).trans rfl; have hcz77_9 : w74.cell? ⟨gb143, 9, none⟩ = some (.int .i64 a1_9) := (blk_cell BK143.out 9).trans rfl; have hcz77_10 : w74.cell? ⟨gb143, 10, none⟩ = some (.int .i64 a1_10) := (blk_cell BK143.out 10).trans rfl; have hcz77_11 : w74.cell? ⟨gb143, 11, none⟩ = some (.int .u64 a1_11) := (blk_cell BK143.out 11).trans rfl; have hfz77_0 := blk_frozen BK143.out 0; have hfz77_1 := blk_frozen BK143.out 1; have hfz77_2 := blk_frozen BK143.out 2; have hfz77_3 := blk_frozen BK143.out 3; have hfz77_4 := blk_frozen BK143.out 4; have hfz77_5 := blk_frozen BK143.out 5; have hfz77_6 := blk_frozen BK143.out 6; have hfz77_7 := blk_frozen BK143.out 7; have hfz77_8 := blk_frozen BK143.out 8; have hfz77_9 := blk_frozen BK143.out 9; have hfz77_10 := blk_frozen BK143.out 10; have hfz77_11 := blk_frozen BK143.out 11)))
    go_ret
    exact ⟨by first | rfl | (simp [errW_none, errW_some] <;> rfl) | (simp [*, errW_none, errW_some] <;> rfl), by repeat (first | (with_reducible first | exact HB.out | apply below_alloc | apply pw_below_drewN | apply below_drew1 | refine below_set ?_ GE142.out | refine below_set ?_ GE143.out) | exact HB.out)⟩

end Go.Proofs.Ytlfminnncfgbfaa.PDiceScripts
