/- Add of the batch, and of the document's. -/
import Derived.Test.YtegaadahogjeiaaBatB
namespace Go.Proofs.Ytegaadahogjeiaa.Hand
open Go.RowKit Go.Proofs.Ytegaadahogjeiaa.PBatchPlays Go.Proofs.YtegaadahogjeiaaW.PrintWords Go.Proofs.YtegaadahogjeiaaW.PrintLast Go.Proofs.YtegaadahogjeiaaW.PrintMore
attribute [local go_sem] max2_int min2_int max_two min_two max_three min_three max_four min_four
attribute [local go_sem high] eqA37
set_option linter.unusedVariables false
set_option linter.unusedSimpArgs false
theorem add_none (m : S37) (now : Int) (w : World) : Calls Try.prog 9 #[.pointer none, .agg #[.int .i64 m.f0, .int .i64 m.f1.f0, .int .i64 m.f1.f1, .int .u64 m.f1.f2, .int .u64 m.f1.f3, .string m.f1.f4, .string m.f2], .int .u64 now] w fun e w' => e = .returned (.int .i64 1) ∧ Below w.heap.size w w' := by
  go_enter Try.func9, Try.ntmps9
  go_wp2
  go_ret
  exact ⟨rfl, by repeat (first | exact Below.refl _ _ | apply below_alloc | apply pw_below_drewN | apply below_drew1)⟩
theorem info_msg : (Try.prog.info? 37).map (fun i => (i.zero, i.size, i.bytes)) = some (some (.agg #[.int .i64 0, .int .i64 0, .int .i64 0, .int .u64 0, .int .u64 0, .string ⟨#[]⟩, .string ⟨#[]⟩]), 7, 72) := by kernel_rfl

set_option maxHeartbeats 1000000 in
set_option maxRecDepth 100000 in
theorem badd_no (b : Nat) (size wait first now : Int) (A : Option Addr) (c : Nat) (l : List S37) (m : S37) (hl : l.length ≤ 100) (hc : l.length ≤ c) (w : World) (hr : Kd.C k37 w A l.length l) (hb : w.heap[b]? = some (.cells #[.int .i64 size, .int .u64 wait, .int .u64 first, .slice A l.length c] 51 (0, 0)))
    (hno : rightM m = false ∨ hasM l m = true ∨ size ≤ (l.length : Int)) :
    Calls Try.prog 9 #[.pointer (some ⟨b, 0, none⟩), .agg #[.int .i64 m.f0, .int .i64 m.f1.f0, .int .i64 m.f1.f1, .int .u64 m.f1.f2, .int .u64 m.f1.f3, .string m.f1.f4, .string m.f2], .int .u64 now] w fun e w' => e = .returned (.int .i64 (if rightM m = false then 1 else if hasM l m = true then 7 else 6)) ∧ Below w.heap.size w w' := by
  have hrp := right_prog m
  have hhas := fun w2 (h2 : Below w.heap.size w w2) => has_walk b size wait first A c l m hl hc w2 (Kd.C_below hr h2) ((h2.block b (blk_lt hb)).trans hb)
  obtain ⟨m0, ⟨m1, m2, m3, m4, m5⟩, m6⟩ := m
  dsimp only at hrp hhas hno ⊢
  have k0 : w.cell? ⟨b, 0, none⟩ = some (.int .i64 size) := blk_cell hb 0
  have k3 : w.cell? ⟨b, 3, none⟩ = some (.slice A l.length c) := blk_cell hb 3
  obtain ⟨RB, hRB⟩ : ∃ RB, rightM ⟨m0, ⟨m1, m2, m3, m4, m5⟩, m6⟩ = RB := ⟨_, rfl⟩
  obtain ⟨HS, hHS⟩ : ∃ HS, hasM l ⟨m0, ⟨m1, m2, m3, m4, m5⟩, m6⟩ = HS := ⟨_, rfl⟩
  rw [hRB, hHS] at hno ⊢
  rw [hRB] at hrp
  rw [hHS] at hhas
  have HRP := Lib.hid hrp
  have HHA := Lib.hid hhas
  have hb1 := below_alloc (Below.refl w.heap.size w) (.cells #[.int .i64 m0, .int .i64 m1, .int .i64 m2, .int .u64 m3, .int .u64 m4, .string m5, .string m6] 37)
  have hbx := blk_new w (.cells #[.int .i64 m0, .int .i64 m1, .int .i64 m2, .int .u64 m3, .int .u64 m4, .string m5, .string m6] 37)
  have HBX := Lib.hid hbx
  have HB := Lib.hid hb1
  have HK0 := Lib.hid k0
  have HK3 := Lib.hid k3
  clear hr hc hrp hhas hRB hHS hb1 hb k0 k3
  have x0 := blk_cell hbx 0
  have x1 := blk_cell hbx 1
  have x2 := blk_cell hbx 2
  have x3 := blk_cell hbx 3
  have x4 := blk_cell hbx 4
  have x5 := blk_cell hbx 5
  have x6 := blk_cell hbx 6
  clear hbx
  go_enter Try.func9, Try.ntmps9
  go_upto_region 1 with (fail)
  generalize w.alloc _ = w1 at HBX x0 x1 x2 x3 x4 x5 x6 HB ⊢
  generalize w.heap.size = bx at HBX x0 x1 x2 x3 x4 x5 x6 ⊢
  cases RB with
  | false =>
    go_wp2_with (go_at_call 20; (with_reducible refine (msg_Right.calls 5 m0 m1 m2 m3 m4 m5 m6 _ _ HRP.out).mono ?_); rintro e w2 ⟨rfl, hb2⟩; have HB2 := Lib.hid hb2; clear hb2)
    go_ret
    exact ⟨rfl, below_step HB.out HB2.out⟩
  | true =>
    cases HS with
    | true =>
      go_wp2_with (first
        | (go_at_call 20; (with_reducible refine (msg_Right.calls 5 m0 m1 m2 m3 m4 m5 m6 _ _ HRP.out).mono ?_); rintro e w2 ⟨rfl, hb2⟩; have HB2 := Lib.hid hb2; have y0 := (HB2.out.cell (cell_lt x0)).trans x0; have y1 := (HB2.out.cell (cell_lt x1)).trans x1; have y2 := (HB2.out.cell (cell_lt x2)).trans x2; have y3 := (HB2.out.cell (cell_lt x3)).trans x3; have y4 := (HB2.out.cell (cell_lt x4)).trans x4; have y5 := (HB2.out.cell (cell_lt x5)).trans x5; have y6 := (HB2.out.cell (cell_lt x6)).trans x6; have HB3 := Lib.hid (below_step HB.out hb2); clear hb2)
        | (go_at_call 14; (with_reducible refine (HHA.out _ HB3.out).mono ?_); rintro e w3 ⟨rfl, hb3⟩; have HB4 := Lib.hid (below_step HB3.out hb3); clear hb3))
      go_ret
      exact ⟨rfl, HB4.out⟩
    | false =>
      have hs : size ≤ (l.length : Int) := by simpa using hno
      have hsb : decide (size ≤ (l.length : Int)) = true := decide_eq_true hs
      clear hno
      go_wp2_with (first
        | (go_at_call 20; (with_reducible refine (msg_Right.calls 5 m0 m1 m2 m3 m4 m5 m6 _ _ HRP.out).mono ?_); rintro e w2 ⟨rfl, hb2⟩; have HB2 := Lib.hid hb2; have y0 := (HB2.out.cell (cell_lt x0)).trans x0; have y1 := (HB2.out.cell (cell_lt x1)).trans x1; have y2 := (HB2.out.cell (cell_lt x2)).trans x2; have y3 := (HB2.out.cell (cell_lt x3)).trans x3; have y4 := (HB2.out.cell (cell_lt x4)).trans x4; have y5 := (HB2.out.cell (cell_lt x5)).trans x5; have y6 := (HB2.out.cell (cell_lt x6)).trans x6; have HB3 := Lib.hid (below_step HB.out hb2); clear hb2)
        | (go_at_call 14; (with_reducible refine (HHA.out _ HB3.out).mono ?_); rintro e w3 ⟨rfl, hb3⟩; have HB4 := Lib.hid (below_step HB3.out hb3); have k0 := (HB4.out.cell (cell_lt HK0.out)).trans HK0.out; have k3 := (HB4.out.cell (cell_lt HK3.out)).trans HK3.out; clear hb3))
      go_quiet (fail)
      go_wp2
      go_ret
      exact ⟨rfl, by repeat (first | exact HB4.out | apply pw_below_drewN | apply below_drew1)⟩

set_option maxHeartbeats 1000000 in
set_option maxRecDepth 100000 in
theorem radd_no (b : Nat) (size wait first now : Int) (A : Option Addr) (c : Nat) (l : List S37) (m : S37) (hl : l.length ≤ 100) (hc : l.length ≤ c) (w : World) (hr : Kd.C k37 w A l.length l) (hb : w.heap[b]? = some (.cells #[.int .i64 size, .int .i64 wait, .int .u64 first, .slice A l.length c] 32 (0, 0)))
    (hno : rightM m = false ∨ hasM l m = true ∨ size ≤ (l.length : Int)) :
    Calls Try.prog 10 #[.pointer (some ⟨b, 0, none⟩), .agg #[.int .i64 m.f0, .int .i64 m.f1.f0, .int .i64 m.f1.f1, .int .u64 m.f1.f2, .int .u64 m.f1.f3, .string m.f1.f4, .string m.f2], .int .u64 now] w fun e w' => e = .returned (.int .i64 (if rightM m = false then 1 else if hasM l m = true then 7 else 6)) ∧ Below w.heap.size w w' := by
  have hrp := right_ref m
  have hhas := fun w2 (h2 : Below w.heap.size w w2) => rhas_walk b size wait first A c l m hl hc w2 (Kd.C_below hr h2) ((h2.block b (blk_lt hb)).trans hb)
  obtain ⟨m0, ⟨m1, m2, m3, m4, m5⟩, m6⟩ := m
  dsimp only at hrp hhas hno ⊢
  have k0 : w.cell? ⟨b, 0, none⟩ = some (.int .i64 size) := blk_cell hb 0
  have k3 : w.cell? ⟨b, 3, none⟩ = some (.slice A l.length c) := blk_cell hb 3
  obtain ⟨RB, hRB⟩ : ∃ RB, rightM ⟨m0, ⟨m1, m2, m3, m4, m5⟩, m6⟩ = RB := ⟨_, rfl⟩
  obtain ⟨HS, hHS⟩ : ∃ HS, hasM l ⟨m0, ⟨m1, m2, m3, m4, m5⟩, m6⟩ = HS := ⟨_, rfl⟩
  rw [hRB, hHS] at hno ⊢
  rw [hRB] at hrp
  rw [hHS] at hhas
  have HRP := Lib.hid hrp
  have HHA := Lib.hid hhas
  have hb1 := below_alloc (Below.refl w.heap.size w) (.cells #[.int .i64 m0, .int .i64 m1, .int .i64 m2, .int .u64 m3, .int .u64 m4, .string m5, .string m6] 37)
  have hbx := blk_new w (.cells #[.int .i64 m0, .int .i64 m1, .int .i64 m2, .int .u64 m3, .int .u64 m4, .string m5, .string m6] 37)
  have HBX := Lib.hid hbx
  have HB := Lib.hid hb1
  have HK0 := Lib.hid k0
  have HK3 := Lib.hid k3
  clear hr hc hrp hhas hRB hHS hb1 hb k0 k3
  have x0 := blk_cell hbx 0
  have x1 := blk_cell hbx 1
  have x2 := blk_cell hbx 2
  have x3 := blk_cell hbx 3
  have x4 := blk_cell hbx 4
  have x5 := blk_cell hbx 5
  have x6 := blk_cell hbx 6
  clear hbx
  go_enter Try.func10, Try.ntmps10
  go_upto_region 1 with (fail)
  generalize w.alloc _ = w1 at HBX x0 x1 x2 x3 x4 x5 x6 HB ⊢
  generalize w.heap.size = bx at HBX x0 x1 x2 x3 x4 x5 x6 ⊢
  cases RB with
  | false =>
    go_wp2_with (go_at_call 21; (with_reducible refine (muleteerref04_Right.calls m0 m1 m2 m3 m4 m5 m6 _ _ HRP.out).mono ?_); rintro e w2 ⟨rfl, hb2⟩; have HB2 := Lib.hid hb2; clear hb2)
    go_ret
    exact ⟨rfl, below_step HB.out HB2.out⟩
  | true =>
    cases HS with
    | true =>
      go_wp2_with (first
        | (go_at_call 21; (with_reducible refine (muleteerref04_Right.calls m0 m1 m2 m3 m4 m5 m6 _ _ HRP.out).mono ?_); rintro e w2 ⟨rfl, hb2⟩; have HB2 := Lib.hid hb2; have y0 := (HB2.out.cell (cell_lt x0)).trans x0; have y1 := (HB2.out.cell (cell_lt x1)).trans x1; have y2 := (HB2.out.cell (cell_lt x2)).trans x2; have y3 := (HB2.out.cell (cell_lt x3)).trans x3; have y4 := (HB2.out.cell (cell_lt x4)).trans x4; have y5 := (HB2.out.cell (cell_lt x5)).trans x5; have y6 := (HB2.out.cell (cell_lt x6)).trans x6; have HB3 := Lib.hid (below_step HB.out hb2); clear hb2)
        | (go_at_call 15; (with_reducible refine (HHA.out _ HB3.out).mono ?_); rintro e w3 ⟨rfl, hb3⟩; have HB4 := Lib.hid (below_step HB3.out hb3); clear hb3))
      go_ret
      exact ⟨rfl, HB4.out⟩
    | false =>
      have hs : size ≤ (l.length : Int) := by simpa using hno
      have hsb : decide (size ≤ (l.length : Int)) = true := decide_eq_true hs
      clear hno
      go_wp2_with (first
        | (go_at_call 21; (with_reducible refine (muleteerref04_Right.calls m0 m1 m2 m3 m4 m5 m6 _ _ HRP.out).mono ?_); rintro e w2 ⟨rfl, hb2⟩; have HB2 := Lib.hid hb2; have y0 := (HB2.out.cell (cell_lt x0)).trans x0; have y1 := (HB2.out.cell (cell_lt x1)).trans x1; have y2 := (HB2.out.cell (cell_lt x2)).trans x2; have y3 := (HB2.out.cell (cell_lt x3)).trans x3; have y4 := (HB2.out.cell (cell_lt x4)).trans x4; have y5 := (HB2.out.cell (cell_lt x5)).trans x5; have y6 := (HB2.out.cell (cell_lt x6)).trans x6; have HB3 := Lib.hid (below_step HB.out hb2); clear hb2)
        | (go_at_call 15; (with_reducible refine (HHA.out _ HB3.out).mono ?_); rintro e w3 ⟨rfl, hb3⟩; have HB4 := Lib.hid (below_step HB3.out hb3); have k0 := (HB4.out.cell (cell_lt HK0.out)).trans HK0.out; have k3 := (HB4.out.cell (cell_lt HK3.out)).trans HK3.out; clear hb3))
      go_quiet (fail)
      go_wp2
      go_ret
      exact ⟨rfl, by repeat (first | exact HB4.out | apply pw_below_drewN | apply below_drew1)⟩

end Go.Proofs.Ytegaadahogjeiaa.Hand
