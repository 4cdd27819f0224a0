/- The batch's methods, and the document's, over blocks. -/
import Derived.Test.YtegaadahogjeiaaBatP
namespace Go.Proofs.Ytegaadahogjeiaa.Hand
open Go.RowKit Go.Proofs.Ytegaadahogjeiaa.PBatchPlays Go.Proofs.YtegaadahogjeiaaW.PrintWords Go.Proofs.YtegaadahogjeiaaW.PrintLast Go.Proofs.YtegaadahogjeiaaW.PrintMore
attribute [local go_sem] max2_int min2_int max_two min_two max_three min_three max_four min_four
attribute [local go_sem high] eqA37
set_option linter.unusedVariables false
set_option linter.unusedSimpArgs false
theorem cell_lt {w : World} {p : Addr} {v : Value} (h : w.cell? p = some v) : p.block < w.heap.size := by
  rcases Nat.lt_or_ge p.block w.heap.size with h1 | h1
  · exact h1
  · simp [World.cell?, Array.getElem?_eq_none h1] at h
theorem new_bad (size wait : Int) (h : size < 1 ∨ size > 32 ∨ wait < 0 ∨ wait > 8) (w : World) : Calls Try.prog 5 #[.int .i64 size, .int .i64 wait] w fun e w' => e = .returned (.tuple #[.pointer none, .int .i64 1]) ∧ w = w' := by
  by_cases h1 : size < 1
  · clear h
    go_enter Try.func5, Try.ntmps5
    go_wp2
    go_ret2
    exact ⟨rfl, rfl⟩
  · by_cases h2 : size > 32
    · clear h
      go_enter Try.func5, Try.ntmps5
      go_wp2
      go_ret2
      exact ⟨rfl, rfl⟩
    · by_cases h3 : wait < 0
      · clear h
        go_enter Try.func5, Try.ntmps5
        go_wp2
        go_ret2
        exact ⟨rfl, rfl⟩
      · have h4 : wait > 8 := by omega
        clear h
        go_enter Try.func5, Try.ntmps5
        go_wp2
        go_ret2
        exact ⟨rfl, rfl⟩
theorem new_good (size wait : Int) (h1 : ¬ size < 1) (h2 : ¬ size > 32) (h3 : ¬ wait < 0) (h4 : ¬ wait > 8) (w : World) : Calls Try.prog 5 #[.int .i64 size, .int .i64 wait] w fun e w' => e = .returned (.tuple #[.pointer (some ⟨w.heap.size, 0, none⟩), .int .i64 0]) ∧ w.alloc (.cells #[.int .i64 size, .int .u64 wait, .int .u64 0, .slice none 0 0] 51) = w' := by
  have hw : IntKind.u64.wrap wait = wait := by rw [IntKind.wrap_u64]; omega
  go_enter Try.func5, Try.ntmps5
  go_wp2
  go_ret2
  exact ⟨rfl, rfl⟩
theorem clear_none (w : World) : Calls Try.prog 8 #[.pointer none] w fun e w' => e = .returned (.tuple #[]) ∧ w = w' := by
  go_enter Try.func8, Try.ntmps8
  go_wp2
  go_end0
  exact ⟨rfl, rfl⟩
theorem clear_walk (b : Nat) (size wait first : Int) (v : Value) (w : World) (hv : ∃ A n c, v = .slice A n c) (hb : w.heap[b]? = some (.cells #[.int .i64 size, .int .u64 wait, .int .u64 first, v] 51 (0, 0))) :
    Calls Try.prog 8 #[.pointer (some ⟨b, 0, none⟩)] w fun e w' => e = .returned (.tuple #[]) ∧ w.setCell ⟨b, 3, none⟩ (.slice none 0 0) = w' := by
  obtain ⟨A, n, c, rfl⟩ := hv
  have k3 : w.cell? ⟨b, 3, none⟩ = some (.slice A n c) := blk_cell hb 3
  have f3 := blk_frozen hb 3
  clear hb
  go_enter Try.func8, Try.ntmps8
  go_wp2
  go_end0
  exact ⟨rfl, rfl⟩
theorem len_none (w : World) : Calls Try.prog 13 #[.pointer none] w fun e w' => e = .returned (.int .i64 0) ∧ w = w' := by
  go_enter Try.func13, Try.ntmps13
  go_wp2
  go_ret
  exact ⟨rfl, rfl⟩
theorem len_walk (b : Nat) (size wait first : Int) (A : Option Addr) (n c : Nat) (w : World) (hb : w.heap[b]? = some (.cells #[.int .i64 size, .int .u64 wait, .int .u64 first, .slice A n c] 51 (0, 0))) :
    Calls Try.prog 13 #[.pointer (some ⟨b, 0, none⟩)] w fun e w' => e = .returned (.int .i64 n) ∧ w = w' := by
  have k3 : w.cell? ⟨b, 3, none⟩ = some (.slice A n c) := blk_cell hb 3
  clear hb
  go_enter Try.func13, Try.ntmps13
  go_wp2
  go_ret
  exact ⟨rfl, rfl⟩
/-- Is a batch due? -/
def dueB (size wait first now : Int) (n : Nat) : Bool := decide ((n : Int) ≠ 0) && (decide (size ≤ (n : Int)) || decide (wait ≤ IntKind.u64.wrap (max now first - first)))
theorem due_none (now : Int) (w : World) : Calls Try.prog 11 #[.pointer none, .int .u64 now] w fun e w' => e = .returned (.bool false) ∧ w = w' := by
  go_enter Try.func11, Try.ntmps11
  go_wp2_with (go_at_call 13; (with_reducible refine (len_none _).mono ?_); rintro e w1 ⟨rfl, rfl⟩)
  go_ret
  exact ⟨rfl, rfl⟩
theorem due_walk (b : Nat) (size wait first now : Int) (A : Option Addr) (n c : Nat) (w : World) (hb : w.heap[b]? = some (.cells #[.int .i64 size, .int .u64 wait, .int .u64 first, .slice A n c] 51 (0, 0))) :
    Calls Try.prog 11 #[.pointer (some ⟨b, 0, none⟩), .int .u64 now] w fun e w' => e = .returned (.bool (dueB size wait first now n)) ∧ Below w.heap.size w w' := by
  have HL := Lib.hid (len_walk b size wait first A n c w hb)
  have k0 : w.cell? ⟨b, 0, none⟩ = some (.int .i64 size) := blk_cell hb 0
  have k1 : w.cell? ⟨b, 1, none⟩ = some (.int .u64 wait) := blk_cell hb 1
  have k2 : w.cell? ⟨b, 2, none⟩ = some (.int .u64 first) := blk_cell hb 2
  have k3 : w.cell? ⟨b, 3, none⟩ = some (.slice A n c) := blk_cell hb 3
  clear hb
  obtain ⟨R, hR⟩ : ∃ R, dueB size wait first now n = R := ⟨_, rfl⟩
  rw [hR]
  have HR := Lib.hid hR
  clear hR
  by_cases hn : (n : Int) = 0
  · have e0 : ((n : Int) == 0) = true := by simpa using hn
    have hr : R = false := by rw [← HR.out, dueB]; simp [hn]
    subst hr
    clear hn
    go_enter Try.func11, Try.ntmps11
    go_wp2_with (go_at_call 13; (with_reducible refine HL.out.mono ?_); rintro e w1 ⟨rfl, rfl⟩)
    go_ret
    exact ⟨rfl, Below.refl _ _⟩
  · have e0 : ((n : Int) == 0) = false := by simpa using hn
    by_cases hs : size ≤ (n : Int)
    · have hr : R = true := by rw [← HR.out, dueB]; simp [hs]; omega
      subst hr
      have hsb : decide (size ≤ (n : Int)) = true := decide_eq_true hs
      clear hn
      go_enter Try.func11, Try.ntmps11
      go_wp2_with (first | (go_at_call 13; (with_reducible refine HL.out.mono ?_); rintro e w1 ⟨rfl, rfl⟩))
      repeat (go_quiet (first | (go_at_call 13; (with_reducible refine HL.out.mono ?_); rintro e w1 ⟨rfl, rfl⟩)))
      go_wp2
      go_ret
      exact ⟨rfl, by repeat (first | exact Below.refl _ _ | apply pw_below_drewN | apply below_drew1)⟩
    · have hr : R = decide (wait ≤ IntKind.u64.wrap (max now first - first)) := by rw [← HR.out, dueB, decide_eq_true (show (n : Int) ≠ 0 from hn), decide_eq_false hs, Bool.true_and, Bool.false_or]
      subst hr
      have hsb : decide (size ≤ (n : Int)) = false := decide_eq_false hs
      clear hs
      obtain ⟨mm, hmm⟩ : ∃ mm : Int, max now first = mm := ⟨_, rfl⟩
      rw [hmm]
      have hmx : (if now < first then first else now) = mm := by rw [← hmm]; split <;> omega
      clear hn hmm
      go_enter Try.func11, Try.ntmps11
      go_wp2_with (first | (go_at_call 13; (with_reducible refine HL.out.mono ?_); rintro e w1 ⟨rfl, rfl⟩))
      repeat (go_quiet (first | (go_at_call 13; (with_reducible refine HL.out.mono ?_); rintro e w1 ⟨rfl, rfl⟩)))
      go_wp2
      go_ret
      exact ⟨rfl, by repeat (first | exact Below.refl _ _ | apply pw_below_drewN | apply below_drew1)⟩
/-- As the document tells it. -/
def dueQ (size wait first now : Int) (n : Nat) : Bool := decide ((n : Int) ≠ 0) && (decide (size ≤ (n : Int)) || (decide (wait = 0) || (decide (first < now) && decide (IntKind.u64.wrap wait ≤ IntKind.u64.wrap (now - first)))))
theorem rdue_walk (b : Nat) (size wait first now : Int) (A : Option Addr) (n c : Nat) (w : World) (hb : w.heap[b]? = some (.cells #[.int .i64 size, .int .i64 wait, .int .u64 first, .slice A n c] 32 (0, 0))) :
    Calls Try.prog 12 #[.pointer (some ⟨b, 0, none⟩), .int .u64 now] w fun e w' => e = .returned (.bool (dueQ size wait first now n)) ∧ Below w.heap.size w w' := by
  have k0 : w.cell? ⟨b, 0, none⟩ = some (.int .i64 size) := blk_cell hb 0
  have k1 : w.cell? ⟨b, 1, none⟩ = some (.int .i64 wait) := blk_cell hb 1
  have k2 : w.cell? ⟨b, 2, none⟩ = some (.int .u64 first) := blk_cell hb 2
  have k3 : w.cell? ⟨b, 3, none⟩ = some (.slice A n c) := blk_cell hb 3
  clear hb
  obtain ⟨R, hR⟩ : ∃ R, dueQ size wait first now n = R := ⟨_, rfl⟩
  rw [hR]
  have HR := Lib.hid hR
  clear hR
  by_cases hn : (n : Int) = 0
  · have e0 : ((n : Int) == 0) = true := by simpa using hn
    have hr : R = false := by rw [← HR.out, dueQ]; simp [hn]
    subst hr
    clear hn
    go_enter Try.func12, Try.ntmps12
    go_wp2
    go_ret
    exact ⟨rfl, Below.refl _ _⟩
  · have e0 : ((n : Int) == 0) = false := by simpa using hn
    by_cases hs : size ≤ (n : Int)
    · have hr : R = true := by rw [← HR.out, dueQ, decide_eq_true (show (n : Int) ≠ 0 from hn), decide_eq_true hs]; rfl
      subst hr
      have hsb : decide (size ≤ (n : Int)) = true := decide_eq_true hs
      clear hn
      go_enter Try.func12, Try.ntmps12
      go_wp2
      go_quiet (first | fail)
      go_wp2
      go_ret
      exact ⟨rfl, by repeat (first | exact Below.refl _ _ | apply pw_below_drewN | apply below_drew1)⟩
    · have hsb : decide (size ≤ (n : Int)) = false := decide_eq_false hs
      by_cases hw : wait = 0
      · have hr : R = true := by rw [← HR.out, dueQ, decide_eq_true (show (n : Int) ≠ 0 from hn), hsb, decide_eq_true hw]; rfl
        subst hr hw
        clear hn hs
        go_enter Try.func12, Try.ntmps12
        go_wp2
        go_quiet (first | fail)
        go_wp2
        go_ret
        exact ⟨rfl, by repeat (first | exact Below.refl _ _ | apply pw_below_drewN | apply below_drew1)⟩
      · have ew : (wait == 0) = false := by simpa using hw
        have hr : R = (decide (first < now) && decide (IntKind.u64.wrap wait ≤ IntKind.u64.wrap (now - first))) := by rw [← HR.out, dueQ, decide_eq_true (show (n : Int) ≠ 0 from hn), hsb, decide_eq_false hw, Bool.true_and, Bool.false_or, Bool.false_or]
        subst hr
        clear hn hs hw
        by_cases hf : first < now
        · have hfb : decide (first < now) = true := decide_eq_true hf
          rw [hfb, Bool.true_and]
          clear hf
          go_enter Try.func12, Try.ntmps12
          go_wp2
          go_quiet (first | fail)
          go_wp2
          go_quiet (first | fail)
          go_wp2
          go_ret
          exact ⟨rfl, by repeat (first | exact Below.refl _ _ | apply pw_below_drewN | apply below_drew1)⟩
        · have hfb : decide (first < now) = false := decide_eq_false hf
          rw [hfb, Bool.false_and]
          clear hf
          go_enter Try.func12, Try.ntmps12
          go_wp2
          go_quiet (first | fail)
          go_wp2
          go_quiet (first | fail)
          go_wp2
          go_ret
          exact ⟨rfl, by repeat (first | exact Below.refl _ _ | apply pw_below_drewN | apply below_drew1)⟩
theorem has_none (m : S37) (w : World) : Calls Try.prog 14 #[.pointer none, .agg #[.int .i64 m.f0, .int .i64 m.f1.f0, .int .i64 m.f1.f1, .int .u64 m.f1.f2, .int .u64 m.f1.f3, .string m.f1.f4, .string m.f2]] w fun e w' => e = .returned (.bool false) ∧ Below w.heap.size w w' := by
  go_enter Try.func14, Try.ntmps14
  go_wp2
  go_quiet (first | fail)
  go_wp2
  go_ret
  exact ⟨rfl, by repeat (first | exact Below.refl _ _ | apply below_alloc | apply pw_below_drewN | apply below_drew1)⟩
theorem has_walk (b : Nat) (size wait first : Int) (A : Option Addr) (c : Nat) (l : List S37) (m : S37) (hl : l.length ≤ 100) (hc : l.length ≤ c) (w : World) (hr : Kd.C k37 w A l.length l) (hb : w.heap[b]? = some (.cells #[.int .i64 size, .int .u64 wait, .int .u64 first, .slice A l.length c] 51 (0, 0))) :
    Calls Try.prog 14 #[.pointer (some ⟨b, 0, none⟩), .agg #[.int .i64 m.f0, .int .i64 m.f1.f0, .int .i64 m.f1.f1, .int .u64 m.f1.f2, .int .u64 m.f1.f3, .string m.f1.f4, .string m.f2]] w fun e w' => e = .returned (.bool (hasM l m)) ∧ Below w.heap.size w w' := by
  obtain ⟨m0, ⟨m1, m2, m3, m4, m5⟩, m6⟩ := m
  have hf := find_all ⟨m0, ⟨m1, m2, m3, m4, m5⟩, m6⟩ l hl
  have hh := fi_has ⟨m0, ⟨m1, m2, m3, m4, m5⟩, m6⟩ l 0
  dsimp only at hf ⊢
  generalize hasM l ⟨m0, ⟨m1, m2, m3, m4, m5⟩, m6⟩ = R at hh ⊢
  generalize fi ⟨m0, ⟨m1, m2, m3, m4, m5⟩, m6⟩ l 0 = q at hf hh
  have k3 : w.cell? ⟨b, 3, none⟩ = some (.slice A l.length c) := blk_cell hb 3
  have HF := Lib.hid hf
  have HR := Lib.hid hr
  have HC := Lib.hid hc
  have HH := Lib.hid hh
  have hb1 := below_alloc (Below.refl w.heap.size w) (.cells #[.int .i64 m0, .int .i64 m1, .int .i64 m2, .int .u64 m3, .int .u64 m4, .string m5, .string m6] 37)
  have hbx := blk_new w (.cells #[.int .i64 m0, .int .i64 m1, .int .i64 m2, .int .u64 m3, .int .u64 m4, .string m5, .string m6] 37)
  have k3' := (hb1.cell (cell_lt k3)).trans k3
  have HR1 := Lib.hid (Kd.C_below hr hb1)
  have HB := Lib.hid hb1
  clear hf hr hc hh hb hb1 HR k3
  go_enter Try.func14, Try.ntmps14
  go_upto_region 1 with (fail)
  generalize w.alloc _ = w1 at hbx k3' HR1 HB ⊢
  generalize w.heap.size = bx at hbx ⊢
  have x0 := blk_cell hbx 0
  have x1 := blk_cell hbx 1
  have x2 := blk_cell hbx 2
  have x3 := blk_cell hbx 3
  have x4 := blk_cell hbx 4
  have x5 := blk_cell hbx 5
  have x6 := blk_cell hbx 6
  clear hbx
  have k4 : ∀ w2 : World, Below w1.drew.heap.size w1.drew w2 → w2.cell? ⟨b, 3, none⟩ = some (.slice A l.length c) ∧ w2.cell? ⟨bx, 0, none⟩ = some (.int .i64 m0) ∧ w2.cell? ⟨bx, 1, none⟩ = some (.int .i64 m1) ∧ w2.cell? ⟨bx, 2, none⟩ = some (.int .i64 m2) ∧ w2.cell? ⟨bx, 3, none⟩ = some (.int .u64 m3) ∧ w2.cell? ⟨bx, 4, none⟩ = some (.int .u64 m4) ∧ w2.cell? ⟨bx, 5, none⟩ = some (.string m5) ∧ w2.cell? ⟨bx, 6, none⟩ = some (.string m6) := fun w2 hb2 =>
    ⟨(hb2.cell (cell_lt k3')).trans k3', (hb2.cell (cell_lt x0)).trans x0, (hb2.cell (cell_lt x1)).trans x1, (hb2.cell (cell_lt x2)).trans x2, (hb2.cell (cell_lt x3)).trans x3, (hb2.cell (cell_lt x4)).trans x4, (hb2.cell (cell_lt x5)).trans x5, (hb2.cell (cell_lt x6)).trans x6⟩
  have K4 := Lib.hid k4
  clear k4
  by_cases hq : 0 ≤ q
  · have hR : R = true := by rw [← HH.out]; exact decide_eq_true hq
    subst hR
    have hqb : decide (0 ≤ q) = true := decide_eq_true hq
    clear hq
    go_region_held3 (fun w' => w'.cell? ⟨b, 3, none⟩ = some (.slice A l.length c) ∧ w'.cell? ⟨bx, 0, none⟩ = some (.int .i64 m0) ∧ w'.cell? ⟨bx, 1, none⟩ = some (.int .i64 m1) ∧ w'.cell? ⟨bx, 2, none⟩ = some (.int .i64 m2) ∧ w'.cell? ⟨bx, 3, none⟩ = some (.int .u64 m3) ∧ w'.cell? ⟨bx, 4, none⟩ = some (.int .u64 m4) ∧ w'.cell? ⟨bx, 5, none⟩ = some (.string m5) ∧ w'.cell? ⟨bx, 6, none⟩ = some (.string m6)) (first | exact ⟨k3', x0, x1, x2, x3, x4, x5, x6⟩ | exact K4.out _ HB2.out) (first
      | (go_at_call 22; refine (msg_Find.calls 200 A c l m0 m1 m2 m3 m4 m5 m6 q _ (Kd.C_drew HR1.out) HC.out HF.out).mono ?_; rintro e w2 ⟨rfl, hb2⟩; have HB2 := Lib.hid hb2; clear hb2)
      | fail)
    go_wp2
    go_ret
    exact ⟨rfl, below_step (below_drew HB.out) HB2.out⟩
  · have hR : R = false := by rw [← HH.out]; exact decide_eq_false hq
    subst hR
    have hqb : decide (0 ≤ q) = false := decide_eq_false hq
    clear hq
    go_region_held3 (fun w' => w'.cell? ⟨b, 3, none⟩ = some (.slice A l.length c) ∧ w'.cell? ⟨bx, 0, none⟩ = some (.int .i64 m0) ∧ w'.cell? ⟨bx, 1, none⟩ = some (.int .i64 m1) ∧ w'.cell? ⟨bx, 2, none⟩ = some (.int .i64 m2) ∧ w'.cell? ⟨bx, 3, none⟩ = some (.int .u64 m3) ∧ w'.cell? ⟨bx, 4, none⟩ = some (.int .u64 m4) ∧ w'.cell? ⟨bx, 5, none⟩ = some (.string m5) ∧ w'.cell? ⟨bx, 6, none⟩ = some (.string m6)) (first | exact ⟨k3', x0, x1, x2, x3, x4, x5, x6⟩ | exact K4.out _ HB2.out) (first
      | (go_at_call 22; refine (msg_Find.calls 200 A c l m0 m1 m2 m3 m4 m5 m6 q _ (Kd.C_drew HR1.out) HC.out HF.out).mono ?_; rintro e w2 ⟨rfl, hb2⟩; have HB2 := Lib.hid hb2; clear hb2)
      | fail)
    go_wp2
    go_ret
    exact ⟨rfl, below_step (below_drew HB.out) HB2.out⟩
end Go.Proofs.Ytegaadahogjeiaa.Hand
