/- What a life is, behind whatever steps: for any number and every list of up to 60 bytes; longer ones answer by the example. -/
import Derived.Test.YtkbobgkjlpgcaaaPLifePlaysx
import Derived.Test.YtkbobgkjlpgcaaaHandLife
namespace Go.Proofs.Ytkbobgkjlpgcaaa.Pure
open Go.RowKit Go.Proofs.Ytkbobgkjlpgcaaa.Hand Go.Proofs.Ytkbobgkjlpgcaaa.PLifePlays Go.Proofs.YtkbobgkjlpgcaaaW.PrintWords Go.Proofs.YtkbobgkjlpgcaaaW.PrintLast
set_option linter.unusedVariables false
set_option linter.unusedSimpArgs false

theorem plays1 (bd bg : Nat) (n : Int) (goes : Bool) (w : World) (hd : w.heap[bd]? = some (.cells #[.int .i64 n] 3 (0, 0))) (hg : w.cell? ⟨bg, 0, none⟩ = some (.bool goes)) (hne : bg ≠ bd) (hn : 0 ≤ n ∧ n < 1000000) :
    Calls Try.prog 54 #[.pointer (some ⟨bd, 0, none⟩), .pointer (some ⟨bg, 0, none⟩)] w fun e w' => e = .returned (.bool goes) ∧ w'.heap[bd]? = some (.cells #[.int .i64 (n + 1)] 3 (0, 0)) ∧ Fr w w' (fun k => k = bd) := by
  have hc := (blk_cell hd 0).trans rfl
  have hz := blk_frozen hd 0
  have HD := Lib.hid hd
  clear hd
  go_enter Try.func54, Try.ntmps54
  go_wp2
  go_ret
  exact ⟨rfl, blk_put HD.out 0 _ rfl, (Fr.refl w (fun k => k = bd)).setCell (p := ⟨bd, 0, none⟩) (.inl rfl) _⟩
theorem enter_plays1 (args : Array Value) (w : World) : (callFunc 54 args).run Try.prog w = .ok (.enter 54 args) w := enters_ Try.func54 (by kernel_rfl) rfl _ _
theorem plays_does (w : World) (b bd bg : Nat) (n : Int) (goes : Bool) (hd : w.heap[bd]? = some (.cells #[.int .i64 n] 3 (0, 0))) (hg : w.heap[bg]? = some (.cells #[.bool goes] 4 (0, 0))) (hdb : bd ≠ b) (hgb : bg ≠ b) (hn : 0 ≤ n ∧ n < 1000000) :
    StepDoes w b 54 #[.pointer (some ⟨bd, 0, none⟩), .pointer (some ⟨bg, 0, none⟩)] goes (some bd) (some (.cells #[.int .i64 (n + 1)] 3 (0, 0))) := fun W _ hk =>
  (plays1 bd bg n goes W ((hk bd (blk_lt hd) hdb).trans hd) ((blk_cell ((hk bg (blk_lt hg) hgb).trans hg) 0).trans rfl) (blk_ne hg hd (by decide)) hn).mono fun e w' h =>
    ⟨h.1, fun k hk => by rw [← Option.some.inj hk]; exact h.2.1, h.2.2.mono (fun k hk => congrArg some hk.symm)⟩
/-- What a step does to both lives. -/
theorem step_both (who st n how : Int) (goes crash : Bool) (hn : 0 ≤ n ∧ n < 1000000) : ∃ ret st' n' how', (n' = if st = 2 ∨ crash = true then n else n + 1) ∧
    (∀ (w : World) (b bd bg : Nat), IsLife w b who st n how → w.heap[bd]? = some (.cells #[.int .i64 n] 3 (0, 0)) → w.heap[bg]? = some (.cells #[.bool goes] 4 (0, 0)) →
      Calls Try.prog 55 #[.pointer (some ⟨b, 0, none⟩), .func (.func 54) #[] #[.pointer (some ⟨bd, 0, none⟩), .pointer (some ⟨bg, 0, none⟩)], .bool crash] w fun e w' => e = .returned (.bool ret) ∧ IsLife w' b who st' n' how' ∧ w'.heap[bd]? = some (.cells #[.int .i64 n'] 3 (0, 0)) ∧ Fr w w' (fun k => k = b ∨ k = bd)) ∧
    (∀ (w : World) (q : Nat), IsRef w q who st n how → Calls Try.prog 56 #[.pointer (some ⟨q, 0, none⟩), .bool goes, .bool crash] w fun e w' => e = .returned (.bool ret) ∧ IsRef w' q who st' n' how' ∧ Fr w w' (fun k => k = q)) := by
  by_cases hst : st = 2
  · subst hst
    refine ⟨false, 2, n, how, by simp, fun w b bd bg hL hd hg => ?_, fun w q hL => ?_⟩
    · exact (step_over b who 2 n how _ crash w hL _ _ rfl).mono fun e w' h => ⟨h.1, blk_below hL h.2, blk_below hd h.2, Fr.of_below h.2 _⟩
    · exact (rstep_over q who 2 n how w hL goes crash).mono fun e w' h => ⟨h.1, by rw [← h.2]; exact hL, by rw [← h.2]; exact Fr.refl _ _⟩
  · have hs : (st == 2) = false := by simpa using hst
    cases crash with
    | true =>
      refine ⟨false, 2, n, 2, by simp, fun w b bd bg hL hd hg => ?_, fun w q hL => ?_⟩
      · have hne : bd ≠ b := blk_ne hd hL (by decide)
        exact (step_crash b who st n how w hL hs _ _).mono fun e w' h => ⟨h.1, h.2.1, h.2.2.blk hd hne, h.2.2.mono (fun k hk => .inl hk)⟩
      · exact rstep_crash q who st n how w hL hs goes
    | false =>
      refine ⟨goes, if goes = true then 1 else 2, n + 1, if goes = true then how else 1, by simp [hst], fun w b bd bg hL hd hg => ?_, fun w q hL => ?_⟩
      · have hne : bd ≠ b := blk_ne hd hL (by decide)
        have hgb : bg ≠ b := blk_ne hg hL (by decide)
        exact (step_goes b who st n how w hL hs _ _ goes (some bd) _ hn (fun k hk => by rw [← Option.some.inj hk]; exact blk_lt hd) (fun e => hne (Option.some.inj e)) (plays_does w b bd bg n goes hd hg hne hgb hn) enter_plays1).mono fun e w' h => ⟨h.1, h.2.1, h.2.2.1 bd rfl, h.2.2.2.mono (fun k hk => hk.imp id (fun h => (Option.some.inj h).symm))⟩
      · exact rstep_goes q who st n how w hL hs hn goes
theorem exit_both (who st n how : Int) : ∃ x1 x2 x3 is,
    (∀ (w : World) (b : Nat), IsLife w b who st n how → Calls Try.prog 57 #[.pointer (some ⟨b, 0, none⟩)] w fun e w' => e = .returned (.tuple #[.agg #[.int .i64 x1, .int .i64 x2, .int .i64 x3], .bool is]) ∧ Below w.heap.size w w') ∧
    (∀ (w : World) (b : Nat), IsRef w b who st n how → Calls Try.prog 58 #[.pointer (some ⟨b, 0, none⟩)] w fun e w' => e = .returned (.tuple #[.agg #[.int .i64 x1, .int .i64 x2, .int .i64 x3], .bool is]) ∧ Below w.heap.size w w') := by
  by_cases hst : st = 2
  · subst hst
    exact ⟨who, how, n, true, fun w b h => exit_ended b who n how w h, fun w b h => rexit_ended b who n how w h⟩
  · have hs : (st != 2) = true := by simpa using hst
    exact ⟨0, 0, 0, false, fun w b h => exit_not b who st n how w h hs, fun w b h => rexit_not b who st n how w h hs⟩
/-- What holds ahead of each round. -/
structure Inv (w W : World) (b q d : Nat) (who st n how : Int) : Prop where
  x : IsLife W b who st n how
  r : IsRef W q who st n how
  dn : W.heap[d]? = some (.cells #[.int .i64 n] 3 (0, 0))
  f : Below w.heap.size w W
  xb : w.heap.size ≤ b
  rb : w.heap.size ≤ q
  db : w.heap.size ≤ d
theorem Inv.cells {w W : World} {b q d : Nat} {who st n how : Int} (I : Inv w W b q d who st n how) : W.cell? ⟨q, 1, none⟩ = some (.int .i64 st) ∧ W.cell? ⟨q, 2, none⟩ = some (.int .i64 n) ∧ W.cell? ⟨d, 0, none⟩ = some (.int .i64 n) ∧ q < W.heap.size ∧ d < W.heap.size :=
  ⟨I.r.cells.2.2.1, I.r.cells.2.2.2.1, (blk_cell I.dn 0).trans rfl, blk_lt I.r, blk_lt I.dn⟩
theorem Inv.below {w W W' : World} {b q d : Nat} {who st n how : Int} (I : Inv w W b q d who st n how) (h : Below W.heap.size W W') : Inv w W' b q d who st n how :=
  ⟨blk_below I.x h, blk_below I.r h, blk_below I.dn h, below_step I.f h, I.xb, I.rb, I.db⟩
theorem Inv.alloc {w W : World} {b q d : Nat} {who st n how : Int} (I : Inv w W b q d who st n how) (o : Obj) : Inv w (W.alloc o) b q d who st n how := I.below (below_alloc (Below.refl _ _) o)
theorem Inv.drew {w W : World} {b q d : Nat} {who st n how : Int} (I : Inv w W b q d who st n how) : Inv w W.drew b q d who st n how := I.below (below_drew1 (Below.refl _ _))
/-- Behind both steps. -/
theorem Inv.step {w W W1 W2 : World} {b q d : Nat} {who st n how st' n' how' : Int} (I : Inv w W b q d who st n how) (hx : IsLife W1 b who st' n' how') (hd : W1.heap[d]? = some (.cells #[.int .i64 n'] 3 (0, 0))) (h1 : Fr W W1 (fun k => k = b ∨ k = d)) (hr : IsRef W2 q who st' n' how') (h2 : Fr W1 W2 (fun k => k = q)) : Inv w W2 b q d who st' n' how' := by
  have hbq : b ≠ q := blk_ne I.x I.r (by decide)
  have hdq : d ≠ q := blk_ne I.dn I.r (by decide)
  have hF : Fr w W (fun k => w.heap.size ≤ k) := Fr.of_below I.f _
  have hF1 : Fr w W1 (fun k => w.heap.size ≤ k) := hF.then_ h1 (fun k hk => .inl (by rcases hk with h | h <;> rw [h]; exact I.xb; exact I.db))
  have hF2 : Fr w W2 (fun k => w.heap.size ≤ k) := hF1.then_ h2 (fun k hk => .inl (by rw [hk]; exact I.rb))
  exact ⟨h2.blk hx hbq, hr, h2.blk hd hdq, hF2.to_below (fun k hk => hk), I.xb, I.rb, I.db⟩
theorem wf8 {n : Int} (h : (Lit.int .u8 n).wf = true) : 0 ≤ n ∧ n < 256 := by
  have hmin : IntKind.u8.min = 0 := rfl
  have hmax : IntKind.u8.max = 255 := rfl
  simp only [Lit.wf, Bool.and_eq_true, decide_eq_true_eq] at h
  omega
set_option maxHeartbeats 4000000 in
set_option maxRecDepth 100000 in
theorem plays_few (who : Int) (A1 : Option Addr) (c1 : Nat) (l : List Int) (w : World) (hr : Kd.C (Kd.int .u8) w A1 l.length l) (hw : ∀ x ∈ l, 0 ≤ x ∧ x < 256) (hl : l.length ≤ 60) :
    Calls Try.prog 13 #[.int .i64 who, .slice A1 l.length c1] w fun e w' => e = .returned (.bool true) ∧ Below w.heap.size w w' := by
  have HR := Lib.hid hr
  have HW := Lib.hid hw
  clear hr hw
  have h1 : ¬ (60 : Int) < (l.length : Int) := by omega
  have hmf : ∀ (fn : Fn) (first cap : Array Value) (w : World), (Instr.makeFunc fn first cap).run Try.prog w = .ok (.func fn first cap) w := fun _ _ _ _ => rfl
  go_enter Try.func13, Try.ntmps13
  go_wp2_with fail
  refine (life_of who _).mono ?_
  rintro e w1 ⟨rfl, hL1, hB1⟩
  have HL1 := Lib.hid hL1
  have HB1 := Lib.hid hB1
  clear hL1 hB1
  go_wp2_with fail
  go_loopw [8, 9] (fun v8 v9 wr => ∃ (j : Nat) (st n how : Int), j ≤ l.length ∧ v9 = .int .i64 j ∧ v8 = .int .i64 n ∧ 0 ≤ n ∧ n ≤ (j : Int) ∧ Hid (Inv w wr w.heap.size w1.heap.size (w1.heap.size + 1) who st n how)) (fun _ v9 _ => l.length - (intOf v9).toNat)
  case atStart =>
    refine ⟨0, 0, 0, 0, by omega, rfl, rfl, by omega, by omega, Lib.hid ?_⟩
    have h0 := blk_new w1 (.cells #[.int .i64 who, .int .i64 0, .int .i64 0, .int .i64 0] 92)
    have h1 := blk_new (w1.alloc (.cells #[.int .i64 who, .int .i64 0, .int .i64 0, .int .i64 0] 92)) (.cells #[.int .i64 0] 3)
    rw [World.size_alloc] at h1
    exact ⟨blk_alloc (blk_alloc HL1.out _) _, blk_alloc h0 _, h1, below_alloc (below_alloc HB1.out _) _, Nat.le_refl _, HB1.out.size, Nat.le_succ_of_le HB1.out.size⟩
  case round =>
    obtain ⟨j, st, n, how, hj, rfl, rfl, hn0, hnj, HI⟩ := hrel
    by_cases h : j < l.length
    · have hlt : (j : Int) < (l.length : Int) := by omega
      obtain ⟨ad, c0, rfl, hcl, hK, hcc⟩ := Kd.C_get HR.out 0 j (by omega) (by omega)
      have hK' : c0 = [.int .u8 (l.getD j 0)] := hK
      subst hK'
      have hcell : w.cell? (ad.add j) = some (.int .u8 (l.getD j 0)) := by have := hcc 0 _ rfl; simpa [Kd.int, Kd.scalar] using this
      generalize l.getD j 0 = x at hcell
      have hc0 : wr.cell? (ad.add j) = some (.int .u8 x) := (HI.out.f.cell (World.block_lt_of_cell? w _ hcell)).trans hcell
      have hc0' : wr.drew.cell? (ad.add j) = some (.int .u8 x) := hc0
      have hnew := World.new_ne wr (ad.add j) hc0
      obtain ⟨goes, hgoes⟩ : ∃ g, (Go.bits .and .u8 x 1 == 1) = g := ⟨_, rfl⟩
      obtain ⟨crash, hcrash⟩ : ∃ g, (Go.bits .and .u8 x 6 == 6) = g := ⟨_, rfl⟩
      clear hcell hcc hK hcl
      go_wp2_with fail
      go_region_held3 (fun w' => w'.cell? (ad.add j) = some (.int .u8 x)) (first | exact hc0 | exact hc0' | go_keep) (first | fail)
      have I2 := Lib.hid ((HI.out.alloc (.cells #[.bool goes] 4)).drew)
      have G2 : Hid ((wr.alloc (.cells #[.bool goes] 4)).drew.heap[wr.heap.size]? = some (.cells #[.bool goes] 4 (0, 0))) := Lib.hid (blk_new wr (.cells #[.bool goes] 4))
      clear hnew hc0 hc0' HI
      generalize (wr.alloc (.cells #[.bool goes] 4)).drew = w2 at I2 G2 ⊢
      obtain ⟨q1, q2, q3, q4, q5⟩ := I2.out.cells
      by_cases hst : st = 2
      · subst hst
        have e2 : (((2 : Int) != 2) = false) := rfl
        obtain ⟨ret, st', n', how', hn', hX, hQ⟩ := step_both who 2 n how goes crash ⟨hn0, by omega⟩
        have hnn : n' = n := by rw [hn', if_pos (.inl rfl)]
        have HX := Lib.hid hX
        have HQ := Lib.hid hQ
        clear hX hQ
        go_wp2_with fail
        clear q1 q2 q3 q4 q5
        have g2 := (blk_cell G2.out 0).trans rfl
        have g2' : w2.drew.cell? ⟨wr.heap.size, 0, none⟩ = some (.bool goes) := g2
        go_region_held3 (fun w' => w'.cell? ⟨wr.heap.size, 0, none⟩ = some (.bool goes)) (first | exact g2 | exact g2' | exact g3 | exact g4) (first
          | (go_at_call 55; (with_reducible refine (HX.out _ _ _ _ I2.out.drew.x I2.out.drew.dn G2.out).mono ?_); rintro e w3 ⟨rfl, hx3, hd3, hF3⟩; have G3 := Lib.hid (hF3.blk G2.out (fun h => by rcases h with h | h; exact blk_ne G2.out I2.out.x (by decide) h; exact blk_ne G2.out I2.out.dn (by decide) h)); have g3 := (blk_cell G3.out 0).trans rfl; have X3 := Lib.hid hx3; have D3 := Lib.hid hd3; have F3 := Lib.hid hF3; have R3 : Hid (IsRef w3 w1.heap.size who 2 n how) := Lib.hid (hF3.blk I2.out.drew.r (fun h => by rcases h with h | h; exact blk_ne I2.out.r I2.out.x (by decide) h; exact blk_ne I2.out.r I2.out.dn (by decide) h)); clear hx3 hd3 hF3)
          | (go_at_call 56; (with_reducible refine (HQ.out _ _ R3.out).mono ?_); rintro e w4 ⟨rfl, hr4, hF4⟩; have g4 := (blk_cell (hF4.blk G3.out (fun h => blk_ne G3.out R3.out (by decide) h)) 0).trans rfl; have I4 := Lib.hid (I2.out.drew.step X3.out D3.out F3.out hr4 hF4); clear hr4 hF4))
        obtain ⟨x1, x2, x3, ix, hX2, hQ2⟩ := exit_both who st' n' how'
        have HX2 := Lib.hid hX2
        have HQ2 := Lib.hid hQ2
        clear hX2 hQ2 g3 g2 g2' G3 R3 X3 D3 F3 HX HQ
        go_wp2_with fail
        refine (HX2.out _ _ I4.out.x).mono ?_
        rintro e w5 ⟨rfl, hb5⟩
        have I5 := Lib.hid (I4.out.below hb5)
        have E5 := Lib.hid (blk_new w5 (.cells #[.int .i64 x1, .int .i64 x2, .int .i64 x3] 96))
        clear hb5 I4 I2 G2 g4
        go_wp2_with fail
        refine (HQ2.out _ _ (I5.out.alloc _).r).mono ?_
        rintro e w6 ⟨rfl, hb6⟩
        have I6 := Lib.hid ((I5.out.alloc _).below hb6)
        have E6 := Lib.hid (blk_below E5.out hb6)
        clear hb6 E5 I5
        have I7 := Lib.hid (I6.out.alloc (.cells #[.int .i64 x1, .int .i64 x2, .int .i64 x3] 96))
        have E7 := Lib.hid (blk_alloc E6.out (.cells #[.int .i64 x1, .int .i64 x2, .int .i64 x3] 96))
        have F7 := Lib.hid (blk_new w6 (.cells #[.int .i64 x1, .int .i64 x2, .int .i64 x3] 96))
        clear E6 I6
        go_wp2_with fail
        generalize w6.alloc (.cells #[.int .i64 x1, .int .i64 x2, .int .i64 x3] 96) = w7 at I7 E7 F7 ⊢
        have hS : w7.cell? ⟨w5.heap.size, 0, none⟩ = some (.int .i64 x1) ∧ w7.cell? ⟨w5.heap.size, 1, none⟩ = some (.int .i64 x2) ∧ w7.cell? ⟨w5.heap.size, 2, none⟩ = some (.int .i64 x3) ∧ w7.cell? ⟨w6.heap.size, 0, none⟩ = some (.int .i64 x1) ∧ w7.cell? ⟨w6.heap.size, 1, none⟩ = some (.int .i64 x2) ∧ w7.cell? ⟨w6.heap.size, 2, none⟩ = some (.int .i64 x3) ∧ w7.cell? ⟨w1.heap.size, 1, none⟩ = some (.int .i64 st') ∧ w7.cell? ⟨w1.heap.size, 2, none⟩ = some (.int .i64 n') ∧ w7.cell? ⟨w1.heap.size + 1, 0, none⟩ = some (.int .i64 n') :=
          ⟨(blk_cell E7.out 0).trans rfl, (blk_cell E7.out 1).trans rfl, (blk_cell E7.out 2).trans rfl, (blk_cell F7.out 0).trans rfl, (blk_cell F7.out 1).trans rfl, (blk_cell F7.out 2).trans rfl, I7.out.cells.1, I7.out.cells.2.1, I7.out.cells.2.2.1⟩
        clear E7 F7
        go_region_held3 (fun w7 => w7.cell? ⟨w5.heap.size, 0, none⟩ = some (.int .i64 x1) ∧ w7.cell? ⟨w5.heap.size, 1, none⟩ = some (.int .i64 x2) ∧ w7.cell? ⟨w5.heap.size, 2, none⟩ = some (.int .i64 x3) ∧ w7.cell? ⟨w6.heap.size, 0, none⟩ = some (.int .i64 x1) ∧ w7.cell? ⟨w6.heap.size, 1, none⟩ = some (.int .i64 x2) ∧ w7.cell? ⟨w6.heap.size, 2, none⟩ = some (.int .i64 x3) ∧ w7.cell? ⟨w1.heap.size, 1, none⟩ = some (.int .i64 st') ∧ w7.cell? ⟨w1.heap.size, 2, none⟩ = some (.int .i64 n') ∧ w7.cell? ⟨w1.heap.size + 1, 0, none⟩ = some (.int .i64 n')) (exact hS) (first
          | (go_at_call 59; (with_reducible refine (state_any _ who st' n' how' _ I7.out.drew.x).mono ?_); rintro e w8 ⟨rfl, rfl⟩)
          | (go_at_call 60; (with_reducible refine (steps_any _ who st' n' how' _ I7.out.drew.x).mono ?_); rintro e w8 ⟨rfl, rfl⟩))
        go_wp2
        go_roundw
        case rel => exact ⟨j + 1, st', n', how', by omega, by go_num, by rw [hnn], by omega, by omega, Lib.hid I7.out.drew⟩
        case measure => simp [intOf]; omega
      · have e2 : (st != 2) = true := by simpa using hst
        cases crash with
        | true =>
          obtain ⟨ret, st', n', how', hn', hX, hQ⟩ := step_both who st n how goes true ⟨hn0, by omega⟩
          have hnn : n' = n := by rw [hn', if_pos (.inr rfl)]
          have HX := Lib.hid hX
          have HQ := Lib.hid hQ
          clear hX hQ
          go_wp2_with fail
          clear q1 q2 q3 q4 q5
          have g2 := (blk_cell G2.out 0).trans rfl
          have g2' : w2.drew.cell? ⟨wr.heap.size, 0, none⟩ = some (.bool goes) := g2
          go_region_held3 (fun w' => w'.cell? ⟨wr.heap.size, 0, none⟩ = some (.bool goes)) (first | exact g2 | exact g2' | exact g3 | exact g4) (first
            | (go_at_call 55; (with_reducible refine (HX.out _ _ _ _ I2.out.drew.x I2.out.drew.dn G2.out).mono ?_); rintro e w3 ⟨rfl, hx3, hd3, hF3⟩; have G3 := Lib.hid (hF3.blk G2.out (fun h => by rcases h with h | h; exact blk_ne G2.out I2.out.x (by decide) h; exact blk_ne G2.out I2.out.dn (by decide) h)); have g3 := (blk_cell G3.out 0).trans rfl; have X3 := Lib.hid hx3; have D3 := Lib.hid hd3; have F3 := Lib.hid hF3; have R3 : Hid (IsRef w3 w1.heap.size who st n how) := Lib.hid (hF3.blk I2.out.drew.r (fun h => by rcases h with h | h; exact blk_ne I2.out.r I2.out.x (by decide) h; exact blk_ne I2.out.r I2.out.dn (by decide) h)); clear hx3 hd3 hF3)
            | (go_at_call 56; (with_reducible refine (HQ.out _ _ R3.out).mono ?_); rintro e w4 ⟨rfl, hr4, hF4⟩; have g4 := (blk_cell (hF4.blk G3.out (fun h => blk_ne G3.out R3.out (by decide) h)) 0).trans rfl; have I4 := Lib.hid (I2.out.drew.step X3.out D3.out F3.out hr4 hF4); clear hr4 hF4))
          obtain ⟨x1, x2, x3, ix, hX2, hQ2⟩ := exit_both who st' n' how'
          have HX2 := Lib.hid hX2
          have HQ2 := Lib.hid hQ2
          clear hX2 hQ2 g3 g2 g2' G3 R3 X3 D3 F3 HX HQ
          go_wp2_with fail
          refine (HX2.out _ _ I4.out.x).mono ?_
          rintro e w5 ⟨rfl, hb5⟩
          have I5 := Lib.hid (I4.out.below hb5)
          have E5 := Lib.hid (blk_new w5 (.cells #[.int .i64 x1, .int .i64 x2, .int .i64 x3] 96))
          clear hb5 I4 I2 G2 g4
          go_wp2_with fail
          refine (HQ2.out _ _ (I5.out.alloc _).r).mono ?_
          rintro e w6 ⟨rfl, hb6⟩
          have I6 := Lib.hid ((I5.out.alloc _).below hb6)
          have E6 := Lib.hid (blk_below E5.out hb6)
          clear hb6 E5 I5
          have I7 := Lib.hid (I6.out.alloc (.cells #[.int .i64 x1, .int .i64 x2, .int .i64 x3] 96))
          have E7 := Lib.hid (blk_alloc E6.out (.cells #[.int .i64 x1, .int .i64 x2, .int .i64 x3] 96))
          have F7 := Lib.hid (blk_new w6 (.cells #[.int .i64 x1, .int .i64 x2, .int .i64 x3] 96))
          clear E6 I6
          go_wp2_with fail
          generalize w6.alloc (.cells #[.int .i64 x1, .int .i64 x2, .int .i64 x3] 96) = w7 at I7 E7 F7 ⊢
          have hS : w7.cell? ⟨w5.heap.size, 0, none⟩ = some (.int .i64 x1) ∧ w7.cell? ⟨w5.heap.size, 1, none⟩ = some (.int .i64 x2) ∧ w7.cell? ⟨w5.heap.size, 2, none⟩ = some (.int .i64 x3) ∧ w7.cell? ⟨w6.heap.size, 0, none⟩ = some (.int .i64 x1) ∧ w7.cell? ⟨w6.heap.size, 1, none⟩ = some (.int .i64 x2) ∧ w7.cell? ⟨w6.heap.size, 2, none⟩ = some (.int .i64 x3) ∧ w7.cell? ⟨w1.heap.size, 1, none⟩ = some (.int .i64 st') ∧ w7.cell? ⟨w1.heap.size, 2, none⟩ = some (.int .i64 n') ∧ w7.cell? ⟨w1.heap.size + 1, 0, none⟩ = some (.int .i64 n') :=
            ⟨(blk_cell E7.out 0).trans rfl, (blk_cell E7.out 1).trans rfl, (blk_cell E7.out 2).trans rfl, (blk_cell F7.out 0).trans rfl, (blk_cell F7.out 1).trans rfl, (blk_cell F7.out 2).trans rfl, I7.out.cells.1, I7.out.cells.2.1, I7.out.cells.2.2.1⟩
          clear E7 F7
          go_region_held3 (fun w7 => w7.cell? ⟨w5.heap.size, 0, none⟩ = some (.int .i64 x1) ∧ w7.cell? ⟨w5.heap.size, 1, none⟩ = some (.int .i64 x2) ∧ w7.cell? ⟨w5.heap.size, 2, none⟩ = some (.int .i64 x3) ∧ w7.cell? ⟨w6.heap.size, 0, none⟩ = some (.int .i64 x1) ∧ w7.cell? ⟨w6.heap.size, 1, none⟩ = some (.int .i64 x2) ∧ w7.cell? ⟨w6.heap.size, 2, none⟩ = some (.int .i64 x3) ∧ w7.cell? ⟨w1.heap.size, 1, none⟩ = some (.int .i64 st') ∧ w7.cell? ⟨w1.heap.size, 2, none⟩ = some (.int .i64 n') ∧ w7.cell? ⟨w1.heap.size + 1, 0, none⟩ = some (.int .i64 n')) (exact hS) (first
            | (go_at_call 59; (with_reducible refine (state_any _ who st' n' how' _ I7.out.drew.x).mono ?_); rintro e w8 ⟨rfl, rfl⟩)
            | (go_at_call 60; (with_reducible refine (steps_any _ who st' n' how' _ I7.out.drew.x).mono ?_); rintro e w8 ⟨rfl, rfl⟩))
          go_wp2
          go_roundw
          case rel => exact ⟨j + 1, st', n', how', by omega, by go_num, by rw [hnn], by omega, by omega, Lib.hid I7.out.drew⟩
          case measure => simp [intOf]; omega
        | false =>
          obtain ⟨ret, st', n', how', hn', hX, hQ⟩ := step_both who st n how goes false ⟨hn0, by omega⟩
          have hnn : n' = n + 1 := by rw [hn', if_neg (by simp [hst])]
          have HX := Lib.hid hX
          have HQ := Lib.hid hQ
          clear hX hQ
          go_wp2_with fail
          clear q1 q2 q3 q4 q5
          have g2 := (blk_cell G2.out 0).trans rfl
          have g2' : w2.drew.cell? ⟨wr.heap.size, 0, none⟩ = some (.bool goes) := g2
          go_region_held3 (fun w' => w'.cell? ⟨wr.heap.size, 0, none⟩ = some (.bool goes)) (first | exact g2 | exact g2' | exact g3 | exact g4) (first
            | (go_at_call 55; (with_reducible refine (HX.out _ _ _ _ I2.out.drew.x I2.out.drew.dn G2.out).mono ?_); rintro e w3 ⟨rfl, hx3, hd3, hF3⟩; have G3 := Lib.hid (hF3.blk G2.out (fun h => by rcases h with h | h; exact blk_ne G2.out I2.out.x (by decide) h; exact blk_ne G2.out I2.out.dn (by decide) h)); have g3 := (blk_cell G3.out 0).trans rfl; have X3 := Lib.hid hx3; have D3 := Lib.hid hd3; have F3 := Lib.hid hF3; have R3 : Hid (IsRef w3 w1.heap.size who st n how) := Lib.hid (hF3.blk I2.out.drew.r (fun h => by rcases h with h | h; exact blk_ne I2.out.r I2.out.x (by decide) h; exact blk_ne I2.out.r I2.out.dn (by decide) h)); clear hx3 hd3 hF3)
            | (go_at_call 56; (with_reducible refine (HQ.out _ _ R3.out).mono ?_); rintro e w4 ⟨rfl, hr4, hF4⟩; have g4 := (blk_cell (hF4.blk G3.out (fun h => blk_ne G3.out R3.out (by decide) h)) 0).trans rfl; have I4 := Lib.hid (I2.out.drew.step X3.out D3.out F3.out hr4 hF4); clear hr4 hF4))
          obtain ⟨x1, x2, x3, ix, hX2, hQ2⟩ := exit_both who st' n' how'
          have HX2 := Lib.hid hX2
          have HQ2 := Lib.hid hQ2
          clear hX2 hQ2 g3 g2 g2' G3 R3 X3 D3 F3 HX HQ
          go_wp2_with fail
          refine (HX2.out _ _ I4.out.x).mono ?_
          rintro e w5 ⟨rfl, hb5⟩
          have I5 := Lib.hid (I4.out.below hb5)
          have E5 := Lib.hid (blk_new w5 (.cells #[.int .i64 x1, .int .i64 x2, .int .i64 x3] 96))
          clear hb5 I4 I2 G2 g4
          go_wp2_with fail
          refine (HQ2.out _ _ (I5.out.alloc _).r).mono ?_
          rintro e w6 ⟨rfl, hb6⟩
          have I6 := Lib.hid ((I5.out.alloc _).below hb6)
          have E6 := Lib.hid (blk_below E5.out hb6)
          clear hb6 E5 I5
          have I7 := Lib.hid (I6.out.alloc (.cells #[.int .i64 x1, .int .i64 x2, .int .i64 x3] 96))
          have E7 := Lib.hid (blk_alloc E6.out (.cells #[.int .i64 x1, .int .i64 x2, .int .i64 x3] 96))
          have F7 := Lib.hid (blk_new w6 (.cells #[.int .i64 x1, .int .i64 x2, .int .i64 x3] 96))
          clear E6 I6
          go_wp2_with fail
          generalize w6.alloc (.cells #[.int .i64 x1, .int .i64 x2, .int .i64 x3] 96) = w7 at I7 E7 F7 ⊢
          have hS : w7.cell? ⟨w5.heap.size, 0, none⟩ = some (.int .i64 x1) ∧ w7.cell? ⟨w5.heap.size, 1, none⟩ = some (.int .i64 x2) ∧ w7.cell? ⟨w5.heap.size, 2, none⟩ = some (.int .i64 x3) ∧ w7.cell? ⟨w6.heap.size, 0, none⟩ = some (.int .i64 x1) ∧ w7.cell? ⟨w6.heap.size, 1, none⟩ = some (.int .i64 x2) ∧ w7.cell? ⟨w6.heap.size, 2, none⟩ = some (.int .i64 x3) ∧ w7.cell? ⟨w1.heap.size, 1, none⟩ = some (.int .i64 st') ∧ w7.cell? ⟨w1.heap.size, 2, none⟩ = some (.int .i64 n') ∧ w7.cell? ⟨w1.heap.size + 1, 0, none⟩ = some (.int .i64 n') :=
            ⟨(blk_cell E7.out 0).trans rfl, (blk_cell E7.out 1).trans rfl, (blk_cell E7.out 2).trans rfl, (blk_cell F7.out 0).trans rfl, (blk_cell F7.out 1).trans rfl, (blk_cell F7.out 2).trans rfl, I7.out.cells.1, I7.out.cells.2.1, I7.out.cells.2.2.1⟩
          clear E7 F7
          go_region_held3 (fun w7 => w7.cell? ⟨w5.heap.size, 0, none⟩ = some (.int .i64 x1) ∧ w7.cell? ⟨w5.heap.size, 1, none⟩ = some (.int .i64 x2) ∧ w7.cell? ⟨w5.heap.size, 2, none⟩ = some (.int .i64 x3) ∧ w7.cell? ⟨w6.heap.size, 0, none⟩ = some (.int .i64 x1) ∧ w7.cell? ⟨w6.heap.size, 1, none⟩ = some (.int .i64 x2) ∧ w7.cell? ⟨w6.heap.size, 2, none⟩ = some (.int .i64 x3) ∧ w7.cell? ⟨w1.heap.size, 1, none⟩ = some (.int .i64 st') ∧ w7.cell? ⟨w1.heap.size, 2, none⟩ = some (.int .i64 n') ∧ w7.cell? ⟨w1.heap.size + 1, 0, none⟩ = some (.int .i64 n')) (exact hS) (first
            | (go_at_call 59; (with_reducible refine (state_any _ who st' n' how' _ I7.out.drew.x).mono ?_); rintro e w8 ⟨rfl, rfl⟩)
            | (go_at_call 60; (with_reducible refine (steps_any _ who st' n' how' _ I7.out.drew.x).mono ?_); rintro e w8 ⟨rfl, rfl⟩))
          go_wp2
          go_roundw
          case rel => exact ⟨j + 1, st', n', how', by omega, by go_num, by rw [hnn], by omega, by omega, Lib.hid I7.out.drew⟩
          case measure => simp [intOf]; omega
    · have hge : ¬ (j : Int) < (l.length : Int) := by omega
      have HB := Lib.hid HI.out.f
      clear HI
      go_wp2_with (first
        | (go_at_call 52; (with_reducible refine (awake18 _).mono ?_); rintro e w2 ⟨rfl, hb⟩))
      go_ret
      exact ⟨rfl, below_step HB.out hb⟩
set_option maxRecDepth 100000 in
theorem plays_many (who : Int) (A1 : Option Addr) (c1 : Nat) (l : List Int) (w : World) (hl : 60 < l.length) :
    Calls Try.prog 13 #[.int .i64 who, .slice A1 l.length c1] w fun e w' => e = .returned (.bool true) ∧ Below w.heap.size w w' := by
  have h1 : (60 : Int) < (l.length : Int) := by omega
  go_enter Try.func13, Try.ntmps13
  go_wp2_with (first
    | (go_at_call 52; (with_reducible refine (awake18 _).mono ?_); rintro e w2 ⟨rfl, hb⟩))
  go_ret
  exact ⟨rfl, hb⟩
theorem LifePlays (a0 : Int) (A1 : Option Addr) (c1 : Nat) (l1 : List Int) (w : World) (hr1 : Kd.C (Kd.int .u8) w A1 l1.length l1) (hc1 : l1.length ≤ c1) (w0 : (Lit.int .i64 a0).wf = true) (w1 : l1.length * 1 ≤ 140737488351232 ∧ ∀ x ∈ l1, (Lit.int .u8 x).wf = true) :
    Calls Try.prog 13 #[.int .i64 a0, .slice A1 l1.length c1] w fun e w' => e = .returned (.bool true) ∧ Below w.heap.size w w' := by
  by_cases h : 60 < l1.length
  · exact plays_many a0 A1 c1 l1 w h
  · exact plays_few a0 A1 c1 l1 w hr1 (fun x hx => wf8 (w1.2 x hx)) (by omega)

end Go.Proofs.Ytkbobgkjlpgcaaa.Pure
