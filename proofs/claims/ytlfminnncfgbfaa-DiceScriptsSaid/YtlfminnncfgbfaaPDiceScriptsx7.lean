/- Written for this claim by a program of the session (wip/tools/inject.py) over the kit's print; what is proved by hand is imported. -/
import Derived.Test.YtlfminnncfgbfaaPDiceScriptsx0
import Derived.Test.YtlfminnncfgbfaaPDiceScriptsx3
import Derived.Test.YtlfminnncfgbfaaPDiceScriptsx6
namespace Go.Proofs.Ytlfminnncfgbfaa.PDiceScripts
open Go.Proofs.Ytlfminnncfgbfaa.Hand
open Go.RowKit Go.Proofs.YtlfminnncfgbfaaW.PrintWords Go.Proofs.YtlfminnncfgbfaaW.PrintLast Go.Proofs.YtlfminnncfgbfaaW.PrintMore
attribute [local go_sem] max2_int min2_int max_two min_two max_three min_three max_four min_four   -- for this text's walks alone
set_option linter.unusedVariables false
set_option linter.unusedSimpArgs false

/-! ### dice_Dice_Step: function 18 -/
def dice_Dice_Step.f (s0_0 : Int) (l1_0 : List Bool) (a1_1 : Int) (a1_2 : Int) (a1_3 : Int) (a1_4 : Int) (a1_5 : Int) (a1_6 : Int) (a1_7 : Int) (a1_8 : Int) (a1_9 : Int) (a1_10 : Int) (a1_11 : Int) : Option (Int × Int × Int × Int × Int × Int × Int × ByteArray × Int) := (conf_Check.f l1_0 a1_1 a1_2 a1_3 a1_4 a1_5 a1_6 a1_7 a1_8 a1_9 a1_10 a1_11).bind fun bt213 => (if bt213.2 = 0 then ((dice_Dice_Below.f s0_0 40).bind fun bt216 => (if bt216.1 < 28 then ((dice_Dice_Below.f bt216.2 16).bind fun bt218 => (some (1, 0, bt218.1, 0, 0, 0, 0, (⟨#[]⟩ : ByteArray), bt218.2))) else (if bt216.1 < 33 then ((dice_Dice_Below.f bt216.2 2).bind fun bt220 => (some (2, bt220.1, 0, 0, 0, 0, 0, (⟨#[]⟩ : ByteArray), bt220.2))) else (if bt216.1 < 36 then ((dice_Dice_packet.f bt216.2 l1_0 a1_1 a1_2 a1_3 a1_4 a1_5 a1_6 a1_7 a1_8 a1_9 a1_10 a1_11).bind fun bt222 => (some (3, 0, 0, bt222.1, bt222.2.1, bt222.2.2.1, bt222.2.2.2.1, bt222.2.2.2.2.1, bt222.2.2.2.2.2))) else (if bt216.1 < 37 then ((conf_Workers.f l1_0 a1_1 a1_2 a1_3 a1_4 a1_5 a1_6 a1_7 a1_8 a1_9 a1_10 a1_11).bind fun t228 => ((dice_Dice_Below.f bt216.2 t228).bind fun bt229 => (some (5, 0, bt229.1, 0, 0, 0, 0, (⟨#[]⟩ : ByteArray), bt229.2)))) else (if bt216.1 < 38 then ((dice_Dice_Below.f bt216.2 2).bind fun bt231 => ((dice_Dice_some.f bt231.2 a1_1).bind fun bt233 => (some (6, bt231.1, bt233.1, 0, 0, 0, 0, (⟨#[]⟩ : ByteArray), bt233.2)))) else (if bt216.1 < 39 then ((dice_Dice_Below.f bt216.2 2).bind fun bt235 => (some (4, bt235.1, 0, 0, 0, 0, 0, (⟨#[]⟩ : ByteArray), bt235.2))) else ((dice_Dice_Below.f bt216.2 4).bind fun bt237 => (if bt237.1 = 0 then (some (7, 0, 0, 0, 0, 0, 0, (⟨#[]⟩ : ByteArray), bt237.2)) else (some (8, 0, 0, 0, 0, 0, 0, (⟨#[]⟩ : ByteArray), bt237.2))))))))))) else (some (0, 0, 0, 0, 0, 0, 0, (⟨#[]⟩ : ByteArray), s0_0)))
/-- What a step keeps: the dice, the box of the result, the box of the config. -/
structure StI (w0 w W : World) (g bc br : Nat) (cfg : Array Value) (s : Int) : Prop where
  i : IsS49 w0 W g s
  b : Below w0.heap.size w0 W
  k : KeepBut w W g none
  c : W.heap[bc]? = some (.cells cfg 25 (0, 0))
  r : W.heap[br]? = some (.cells #[.int .i64 0, .int .i64 0, .int .i64 0, .int .i64 0, .int .i64 0, .int .u64 0, .int .u64 0, .string (⟨#[]⟩ : ByteArray)] 44 (0, 0))
  gc : g < bc
  gr : g < br
  wr : w.heap.size ≤ br
  hw : w0.heap.size ≤ w.heap.size
theorem StI.below {w0 w W W' : World} {g bc br : Nat} {cfg : Array Value} {s : Int} (T : StI w0 w W g bc br cfg s) (h : Below W.heap.size W W') : StI w0 w W' g bc br cfg s :=
  ⟨T.i.below h, below_step T.b h, T.k.trans (KeepBut.of_below h g none) (.inl rfl), blk_below T.c h, blk_below T.r h, T.gc, T.gr, T.wr, T.hw⟩
theorem StI.turn {w0 w W W' : World} {g bc br : Nat} {cfg : Array Value} {s s' : Int} (T : StI w0 w W g bc br cfg s) (hi : IsS49 w0 W' g s') (hb : Below w0.heap.size w0 W') (hk : KeepBut W W' g none) : StI w0 w W' g bc br cfg s' :=
  ⟨hi, hb, T.k.trans hk (.inl rfl), (hk.2 bc (blk_lt T.c) (by have := T.gc; omega) (by simp)).trans T.c, (hk.2 br (blk_lt T.r) (by have := T.gr; omega) (by simp)).trans T.r, T.gc, T.gr, T.wr, T.hw⟩
theorem StI.start {w0 w : World} {g : Nat} {cfg : Array Value} {s : Int} (hI : IsS49 w0 w g s) (hB : Below w0.heap.size w0 w) : StI w0 w ((w.alloc (.cells cfg 25)).alloc (.cells #[.int .i64 0, .int .i64 0, .int .i64 0, .int .i64 0, .int .i64 0, .int .u64 0, .int .u64 0, .string (⟨#[]⟩ : ByteArray)] 44)) g w.heap.size (w.heap.size + 1) cfg s := by
  have hg := blk_lt hI.1
  have h2 := blk_new (w.alloc (.cells cfg 25)) (.cells #[.int .i64 0, .int .i64 0, .int .i64 0, .int .i64 0, .int .i64 0, .int .u64 0, .int .u64 0, .string (⟨#[]⟩ : ByteArray)] 44)
  rw [World.size_alloc] at h2
  have hb : Below w.heap.size w ((w.alloc (.cells cfg 25)).alloc (.cells #[.int .i64 0, .int .i64 0, .int .i64 0, .int .i64 0, .int .i64 0, .int .u64 0, .int .u64 0, .string (⟨#[]⟩ : ByteArray)] 44)) := below_alloc (below_alloc (Below.refl _ _) _) _
  exact ⟨hI.below hb, below_step hB hb, KeepBut.of_below hb g none, blk_alloc (blk_new w _) _, h2, hg, by omega, by omega, hB.size⟩
theorem StI.set {w0 w W : World} {g bc br : Nat} {cfg : Array Value} {s : Int} (T : StI w0 w W g bc br cfg s) {bs i : Nat} (u : Value) (h1 : bs ≠ bc) (h2 : bs ≠ br) (h3 : g < bs) (h4 : w.heap.size ≤ bs) : StI w0 w (W.setCell ⟨bs, i, none⟩ u) g bc br cfg s :=
  ⟨T.i.far (p := ⟨bs, i, none⟩) (by show g ≠ bs; omega) u, below_set T.b (Nat.le_trans T.hw h4), keep_far T.k (p := ⟨bs, i, none⟩) h4 u, blk_far T.c (p := ⟨bs, i, none⟩) (Ne.symm h1) u, blk_far T.r (p := ⟨bs, i, none⟩) (Ne.symm h2) u, T.gc, T.gr, T.wr, T.hw⟩
set_option maxHeartbeats 4000000 in
theorem put8 {W : World} {b T : Nat} {p0 p1 p2 p3 p4 p5 p6 p7 : Value} (S : W.heap[b]? = some (.cells #[p0, p1, p2, p3, p4, p5, p6, p7] T (0, 0))) (u0 u1 u2 u3 u4 u5 u6 u7 : Value) :
    ((((((((W.setCell ⟨b, 0, none⟩ u0).setCell ⟨b, 1, none⟩ u1).setCell ⟨b, 2, none⟩ u2).setCell ⟨b, 3, none⟩ u3).setCell ⟨b, 4, none⟩ u4).setCell ⟨b, 5, none⟩ u5).setCell ⟨b, 6, none⟩ u6).setCell ⟨b, 7, none⟩ u7).heap[b]? = some (.cells #[u0, u1, u2, u3, u4, u5, u6, u7] T (0, 0)) := by
  have s0 := blk_put S 0 u0 rfl
  have s1 := blk_put s0 1 u1 rfl
  have s2 := blk_put s1 2 u2 rfl
  have s3 := blk_put s2 3 u3 rfl
  have s4 := blk_put s3 4 u4 rfl
  have s5 := blk_put s4 5 u5 rfl
  have s6 := blk_put s5 6 u6 rfl
  exact blk_put s6 7 u7 rfl
theorem StI.set8 {w0 w W : World} {g bc br : Nat} {cfg : Array Value} {s : Int} (T : StI w0 w W g bc br cfg s) {bs : Nat} (u0 u1 u2 u3 u4 u5 u6 u7 : Value) (h1 : bs ≠ bc) (h2 : bs ≠ br) (h3 : g < bs) (h4 : w.heap.size ≤ bs) :
    StI w0 w ((((((((W.setCell ⟨bs, 0, none⟩ u0).setCell ⟨bs, 1, none⟩ u1).setCell ⟨bs, 2, none⟩ u2).setCell ⟨bs, 3, none⟩ u3).setCell ⟨bs, 4, none⟩ u4).setCell ⟨bs, 5, none⟩ u5).setCell ⟨bs, 6, none⟩ u6).setCell ⟨bs, 7, none⟩ u7) g bc br cfg s :=
  (((((((T.set u0 h1 h2 h3 h4).set u1 h1 h2 h3 h4).set u2 h1 h2 h3 h4).set u3 h1 h2 h3 h4).set u4 h1 h2 h3 h4).set u5 h1 h2 h3 h4).set u6 h1 h2 h3 h4).set u7 h1 h2 h3 h4
theorem out1 {w0 w W : World} {g br j : Nat} {s : Int} (u : Value) (T : IsS49 w0 W g s ∧ Below w0.heap.size w0 W ∧ KeepBut w W g none) (h1 : g < br) (h2 : w.heap.size ≤ br) (h3 : w0.heap.size ≤ w.heap.size) : IsS49 w0 (W.setCell ⟨br, j, none⟩ u) g s ∧ Below w0.heap.size w0 (W.setCell ⟨br, j, none⟩ u) ∧ KeepBut w (W.setCell ⟨br, j, none⟩ u) g none :=
  ⟨T.1.far (p := ⟨br, j, none⟩) (by show g ≠ br; omega) u, below_set T.2.1 (Nat.le_trans h3 h2), keep_far T.2.2 (p := ⟨br, j, none⟩) h2 u⟩
theorem StI.out8 {w0 w W : World} {g bc br : Nat} {cfg : Array Value} {s : Int} (T : StI w0 w W g bc br cfg s) (u0 u1 u2 u3 u4 u5 u6 u7 : Value) :
    IsS49 w0 ((((((((W.setCell ⟨br, 0, none⟩ u0).setCell ⟨br, 1, none⟩ u1).setCell ⟨br, 2, none⟩ u2).setCell ⟨br, 3, none⟩ u3).setCell ⟨br, 4, none⟩ u4).setCell ⟨br, 5, none⟩ u5).setCell ⟨br, 6, none⟩ u6).setCell ⟨br, 7, none⟩ u7) g s ∧
    Below w0.heap.size w0 ((((((((W.setCell ⟨br, 0, none⟩ u0).setCell ⟨br, 1, none⟩ u1).setCell ⟨br, 2, none⟩ u2).setCell ⟨br, 3, none⟩ u3).setCell ⟨br, 4, none⟩ u4).setCell ⟨br, 5, none⟩ u5).setCell ⟨br, 6, none⟩ u6).setCell ⟨br, 7, none⟩ u7) ∧
    KeepBut w ((((((((W.setCell ⟨br, 0, none⟩ u0).setCell ⟨br, 1, none⟩ u1).setCell ⟨br, 2, none⟩ u2).setCell ⟨br, 3, none⟩ u3).setCell ⟨br, 4, none⟩ u4).setCell ⟨br, 5, none⟩ u5).setCell ⟨br, 6, none⟩ u6).setCell ⟨br, 7, none⟩ u7) g none :=
  out1 u7 (out1 u6 (out1 u5 (out1 u4 (out1 u3 (out1 u2 (out1 u1 (out1 u0 ⟨T.i, T.b, T.k⟩ T.gr T.wr T.hw) T.gr T.wr T.hw) T.gr T.wr T.hw) T.gr T.wr T.hw) T.gr T.wr T.hw) T.gr T.wr T.hw) T.gr T.wr T.hw) T.gr T.wr T.hw
theorem box8s {w : World} {g : Nat} {a b c d e f x y : Value} {T : Nat} (h : w.heap[g]? = some (.cells #[a, b, c, d, e, f, x, y] T (0, 0))) :
    (∀ o, w.frozen? ⟨g, o, none⟩ = false) ∧ w.cell? ⟨g, 0, none⟩ = some a ∧ w.cell? ⟨g, 1, none⟩ = some b ∧ w.cell? ⟨g, 2, none⟩ = some c ∧ w.cell? ⟨g, 3, none⟩ = some d ∧ w.cell? ⟨g, 4, none⟩ = some e ∧ w.cell? ⟨g, 5, none⟩ = some f ∧ w.cell? ⟨g, 6, none⟩ = some x ∧ w.cell? ⟨g, 7, none⟩ = some y :=
  ⟨fun o => blk_frozen h o, (blk_cell h 0).trans rfl, (blk_cell h 1).trans rfl, (blk_cell h 2).trans rfl, (blk_cell h 3).trans rfl, (blk_cell h 4).trans rfl, (blk_cell h 5).trans rfl, (blk_cell h 6).trans rfl, (blk_cell h 7).trans rfl⟩
theorem cells12 {w : World} {g : Nat} {v0 v1 v2 v3 v4 v5 v6 v7 v8 v9 v10 v11 : Value} {T : Nat} (h : w.heap[g]? = some (.cells #[v0, v1, v2, v3, v4, v5, v6, v7, v8, v9, v10, v11] T (0, 0))) : w.cell? ⟨g, 0, none⟩ = some v0 ∧ w.cell? ⟨g, 1, none⟩ = some v1 ∧ w.cell? ⟨g, 2, none⟩ = some v2 ∧ w.cell? ⟨g, 3, none⟩ = some v3 ∧ w.cell? ⟨g, 4, none⟩ = some v4 ∧ w.cell? ⟨g, 5, none⟩ = some v5 ∧ w.cell? ⟨g, 6, none⟩ = some v6 ∧ w.cell? ⟨g, 7, none⟩ = some v7 ∧ w.cell? ⟨g, 8, none⟩ = some v8 ∧ w.cell? ⟨g, 9, none⟩ = some v9 ∧ w.cell? ⟨g, 10, none⟩ = some v10 ∧ w.cell? ⟨g, 11, none⟩ = some v11 := ⟨(blk_cell h 0).trans rfl, (blk_cell h 1).trans rfl, (blk_cell h 2).trans rfl, (blk_cell h 3).trans rfl, (blk_cell h 4).trans rfl, (blk_cell h 5).trans rfl, (blk_cell h 6).trans rfl, (blk_cell h 7).trans rfl, (blk_cell h 8).trans rfl, (blk_cell h 9).trans rfl, (blk_cell h 10).trans rfl, (blk_cell h 11).trans rfl⟩
set_option maxHeartbeats 8000000 in
set_option maxRecDepth 100000 in
theorem dice_Dice_Step.calls (g : Nat) (s0_0 : Int) (A1_0 : Option Addr) (c1_0 : Nat) (l1_0 : List Bool) (a1_1 : Int) (a1_2 : Int) (a1_3 : Int) (a1_4 : Int) (a1_5 : Int) (a1_6 : Int) (a1_7 : Int) (a1_8 : Int) (a1_9 : Int) (a1_10 : Int) (a1_11 : Int) (r1 : Int) (r2 : Int) (r3 : Int) (r4 : Int) (r5 : Int) (r6 : Int) (r7 : Int) (r8 : ByteArray) (r9 : Int) (w0 w : World) (hI : IsS49 w0 w g s0_0) (hB : Below w0.heap.size w0 w) (hr1_0 : Kd.C Kd.bool w A1_0 l1_0.length l1_0) (hc1_0 : l1_0.length ≤ c1_0) (hf1_0 : ∀ ad, A1_0 = some ad → 0 < l1_0.length → ad.block ≠ g) (h : dice_Dice_Step.f s0_0 l1_0 a1_1 a1_2 a1_3 a1_4 a1_5 a1_6 a1_7 a1_8 a1_9 a1_10 a1_11 = some (r1, r2, r3, r4, r5, r6, r7, r8, r9)) :
    Calls Try.prog 18 #[.pointer (some ⟨g, 0, none⟩), .agg #[.slice A1_0 l1_0.length c1_0, .int .i64 a1_1, .int .i64 a1_2, .int .i64 a1_3, .int .i64 a1_4, .int .i64 a1_5, .int .i64 a1_6, .int .i64 a1_7, .int .i64 a1_8, .int .i64 a1_9, .int .i64 a1_10, .int .u64 a1_11]] w fun e w' => e = .returned (.agg #[.int .i64 r1, .int .i64 r2, .int .i64 r3, .int .i64 r4, .int .i64 r5, .int .u64 r6, .int .u64 r7, .string r8]) ∧ IsS49 w0 w' g r9 ∧ Below w0.heap.size w0 w' ∧ KeepBut w w' g none := by
  have hu25 := Try.underlying25
  have hu44 := Try.underlying44
  have HR := Lib.hid hr1_0
  have HC := Lib.hid hc1_0
  have HF := Lib.hid hf1_0
  have HT := Lib.hid (StI.start (cfg := #[.slice A1_0 l1_0.length c1_0, .int .i64 a1_1, .int .i64 a1_2, .int .i64 a1_3, .int .i64 a1_4, .int .i64 a1_5, .int .i64 a1_6, .int .i64 a1_7, .int .i64 a1_8, .int .i64 a1_9, .int .i64 a1_10, .int .u64 a1_11]) hI hB)
  clear hr1_0 hc1_0 hI hB hf1_0
  have H : _ := h
  unfold dice_Dice_Step.f at H
  clear h
  replace H := Option.bind_eq_some_iff.mp H
  obtain ⟨⟨t0, t1⟩, A30, H⟩ := H
  have A3 := Lib.hid A30
  clear A30
  by_cases c4 : t1 = 0
  · rw [if_pos c4] at H
    subst c4
    replace H := Option.bind_eq_some_iff.mp H
    obtain ⟨⟨n, s1⟩, A50, H⟩ := H
    have A5 := Lib.hid A50
    have HH := Lib.hid H
    clear A50 H
    go_enter Try.func18, Try.ntmps18
    go_wp2_with fail
    refine (conf_Check.calls A1_0 c1_0 l1_0 a1_1 a1_2 a1_3 a1_4 a1_5 a1_6 a1_7 a1_8 a1_9 a1_10 a1_11 t0 0 _ (Kd.C_alloc (Kd.C_alloc HR.out _) _) HC.out A3.out).mono ?_
    rintro e w1 ⟨rfl, hb1⟩
    have T1 := Lib.hid (HT.out.below hb1)
    clear hb1 HT
    have T2 := Lib.hid (T1.out.below (below_alloc (Below.refl _ _) (.cells #[.int .i64 0, .int .i64 0, .int .i64 0, .int .i64 0, .int .i64 0, .int .u64 0, .int .u64 0, .string (⟨#[]⟩ : ByteArray)] 44)))
    have S2 := Lib.hid (blk_new w1 (.cells #[.int .i64 0, .int .i64 0, .int .i64 0, .int .i64 0, .int .i64 0, .int .u64 0, .int .u64 0, .string (⟨#[]⟩ : ByteArray)] 44))
    have n2 : g < w1.heap.size := blk_lt T1.out.i.1
    have n3 : w.heap.size ≤ w1.heap.size := T1.out.k.1
    have n9 : w1.heap.size ≠ w.heap.size := Ne.symm (Nat.ne_of_lt (blk_lt T1.out.c))
    have n4 : w.heap.size + 1 ≠ w1.heap.size := Nat.ne_of_lt (blk_lt T1.out.r)
    have n5 : w1.heap.size ≠ w.heap.size + 1 := Ne.symm n4
    have n8 : w.heap.size ≠ w1.heap.size := Ne.symm n9
    obtain ⟨bs, hbs⟩ : ∃ bs, w1.heap.size = bs := ⟨_, rfl⟩
    obtain ⟨br, hbr⟩ : ∃ br, w.heap.size + 1 = br := ⟨_, rfl⟩
    go_wp2_with fail
    clear T1
    generalize w1.alloc (.cells #[.int .i64 0, .int .i64 0, .int .i64 0, .int .i64 0, .int .i64 0, .int .u64 0, .int .u64 0, .string (⟨#[]⟩ : ByteArray)] 44) = w2 at T2 S2 ⊢
    rw [hbs] at S2 n2 n3 n4 n5 n8 n9
    rw [hbr] at T2 n4 n5
    clear hbs hbr
    refine (dice_Dice_Below.calls g s0_0 40 n s1 w0 w2 T2.out.i T2.out.b A5.out).mono ?_
    rintro e w3 ⟨rfl, hi3, hb3, hk3⟩
    have T3 := Lib.hid (T2.out.turn hi3 hb3 hk3)
    have S3 := Lib.hid ((hk3.2 _ (blk_lt S2.out) (by omega) (by simp)).trans S2.out)
    clear hi3 hb3 hk3 T2 S2
    have H := HH.out
    clear HH
    by_cases c28 : n < 28
    · rw [if_pos c28] at H
      replace H := Option.bind_eq_some_iff.mp H
      obtain ⟨⟨q, s2⟩, A70, H⟩ := H
      have A7 := Lib.hid A70
      clear A70
      simp only [Option.some.injEq, Prod.mk.injEq] at H
      obtain ⟨rfl, rfl, rfl, rfl, rfl, rfl, rfl, rfl, rfl⟩ := H
      go_wp2_with fail
      refine (dice_Dice_Below.calls g s1 16 q s2 w0 w3 T3.out.i T3.out.b A7.out).mono ?_
      rintro e w4 ⟨rfl, hi, hb, hk⟩
      have T4 := Lib.hid (T3.out.turn hi hb hk)
      have S4 := Lib.hid ((hk.2 _ (blk_lt S3.out) (by omega) (by simp)).trans S3.out)
      clear hi hb hk T3 S3
      obtain ⟨fxz, x0, x1, x2, x3, x4, x5, x6, x7⟩ := box8s S4.out
      go_upto_region 22 with (fail)
      have S5 := Lib.hid (put8 S4.out (.int .i64 1) (.int .i64 0) (.int .i64 q) (.int .i64 0) (.int .i64 0) (.int .u64 0) (.int .u64 0) (.string (⟨#[]⟩ : ByteArray)))
      have T5 := Lib.hid (T4.out.set8 (bs := bs) (.int .i64 1) (.int .i64 0) (.int .i64 q) (.int .i64 0) (.int .i64 0) (.int .u64 0) (.int .u64 0) (.string (⟨#[]⟩ : ByteArray)) n9 n5 n2 n3)
      clear fxz x0 x1 x2 x3 x4 x5 x6 x7
      clear S4 T4
      generalize (((((((w4.setCell _ _).setCell _ _).setCell _ _).setCell _ _).setCell _ _).setCell _ _).setCell _ _).setCell _ _ = w5 at S5 T5 ⊢
      obtain ⟨fxz, x0, x1, x2, x3, x4, x5, x6, x7⟩ := box8s S5.out
      obtain ⟨fyz, y0, y1, y2, y3, y4, y5, y6, y7⟩ := box8s T5.out.r
      go_wp2
      have P9 := put8 T5.out.r (.int .i64 1) (.int .i64 0) (.int .i64 q) (.int .i64 0) (.int .i64 0) (.int .u64 0) (.int .u64 0) (.string (⟨#[]⟩ : ByteArray))
      have Q9 := T5.out.out8 (.int .i64 1) (.int .i64 0) (.int .i64 q) (.int .i64 0) (.int .i64 0) (.int .u64 0) (.int .u64 0) (.string (⟨#[]⟩ : ByteArray))
      refine bodyPost_ret (results_cell_row rfl _ _ br 44 #[.int .i64 1, .int .i64 0, .int .i64 q, .int .i64 0, .int .i64 0, .int .u64 0, .int .u64 0, .string (⟨#[]⟩ : ByteArray)] (0, 0) _ rfl P9 Try.underlying44 rfl (by kernel_rfl)) rfl ?_
      exact ⟨rfl, Q9⟩
    rw [if_neg c28] at H
    by_cases c33 : n < 33
    · rw [if_pos c33] at H
      replace H := Option.bind_eq_some_iff.mp H
      obtain ⟨⟨q, s2⟩, A70, H⟩ := H
      have A7 := Lib.hid A70
      clear A70
      simp only [Option.some.injEq, Prod.mk.injEq] at H
      obtain ⟨rfl, rfl, rfl, rfl, rfl, rfl, rfl, rfl, rfl⟩ := H
      go_wp2_with fail
      refine (dice_Dice_Below.calls g s1 2 q s2 w0 w3 T3.out.i T3.out.b A7.out).mono ?_
      rintro e w4 ⟨rfl, hi, hb, hk⟩
      have T4 := Lib.hid (T3.out.turn hi hb hk)
      have S4 := Lib.hid ((hk.2 _ (blk_lt S3.out) (by omega) (by simp)).trans S3.out)
      clear hi hb hk T3 S3
      obtain ⟨fxz, x0, x1, x2, x3, x4, x5, x6, x7⟩ := box8s S4.out
      go_upto_region 22 with (fail)
      have S5 := Lib.hid (put8 S4.out (.int .i64 2) (.int .i64 q) (.int .i64 0) (.int .i64 0) (.int .i64 0) (.int .u64 0) (.int .u64 0) (.string (⟨#[]⟩ : ByteArray)))
      have T5 := Lib.hid (T4.out.set8 (bs := bs) (.int .i64 2) (.int .i64 q) (.int .i64 0) (.int .i64 0) (.int .i64 0) (.int .u64 0) (.int .u64 0) (.string (⟨#[]⟩ : ByteArray)) n9 n5 n2 n3)
      clear fxz x0 x1 x2 x3 x4 x5 x6 x7
      clear S4 T4
      generalize (((((((w4.setCell _ _).setCell _ _).setCell _ _).setCell _ _).setCell _ _).setCell _ _).setCell _ _).setCell _ _ = w5 at S5 T5 ⊢
      obtain ⟨fxz, x0, x1, x2, x3, x4, x5, x6, x7⟩ := box8s S5.out
      obtain ⟨fyz, y0, y1, y2, y3, y4, y5, y6, y7⟩ := box8s T5.out.r
      go_wp2
      have P9 := put8 T5.out.r (.int .i64 2) (.int .i64 q) (.int .i64 0) (.int .i64 0) (.int .i64 0) (.int .u64 0) (.int .u64 0) (.string (⟨#[]⟩ : ByteArray))
      have Q9 := T5.out.out8 (.int .i64 2) (.int .i64 q) (.int .i64 0) (.int .i64 0) (.int .i64 0) (.int .u64 0) (.int .u64 0) (.string (⟨#[]⟩ : ByteArray))
      refine bodyPost_ret (results_cell_row rfl _ _ br 44 #[.int .i64 2, .int .i64 q, .int .i64 0, .int .i64 0, .int .i64 0, .int .u64 0, .int .u64 0, .string (⟨#[]⟩ : ByteArray)] (0, 0) _ rfl P9 Try.underlying44 rfl (by kernel_rfl)) rfl ?_
      exact ⟨rfl, Q9⟩
    rw [if_neg c33] at H
    by_cases c36 : n < 36
    · rw [if_pos c36] at H
      replace H := Option.bind_eq_some_iff.mp H
      obtain ⟨⟨p1, p2, p3, p4, p5, s2⟩, A70, H⟩ := H
      have A7 := Lib.hid A70
      clear A70
      simp only [Option.some.injEq, Prod.mk.injEq] at H
      obtain ⟨rfl, rfl, rfl, rfl, rfl, rfl, rfl, rfl, rfl⟩ := H
      obtain ⟨k0, k1, k2, k3, k4, k5, k6, k7, k8, k9, k10, k11⟩ := cells12 T3.out.c
      go_wp2_with fail
      clear k0 k1 k2 k3 k4 k5 k6 k7 k8 k9 k10 k11
      refine (dice_Dice_packet.calls g s1 A1_0 c1_0 l1_0 a1_1 a1_2 a1_3 a1_4 a1_5 a1_6 a1_7 a1_8 a1_9 a1_10 a1_11 p1 p2 p3 p4 p5 s2 w0 w3 T3.out.i T3.out.b (Kd.C_keep false HR.out T3.out.k HF.out) HC.out HF.out A7.out).mono ?_
      rintro e w4 ⟨rfl, hi, hb, hk⟩
      have T4 := Lib.hid (T3.out.turn hi hb hk)
      have S4 := Lib.hid ((hk.2 _ (blk_lt S3.out) (by omega) (by simp)).trans S3.out)
      clear hi hb hk T3 S3
      obtain ⟨fxz, x0, x1, x2, x3, x4, x5, x6, x7⟩ := box8s S4.out
      go_upto_region 22 with (fail)
      have S5 := Lib.hid (put8 S4.out (.int .i64 3) (.int .i64 0) (.int .i64 0) (.int .i64 p1) (.int .i64 p2) (.int .u64 p3) (.int .u64 p4) (.string p5))
      have T5 := Lib.hid (T4.out.set8 (bs := bs) (.int .i64 3) (.int .i64 0) (.int .i64 0) (.int .i64 p1) (.int .i64 p2) (.int .u64 p3) (.int .u64 p4) (.string p5) n9 n5 n2 n3)
      clear fxz x0 x1 x2 x3 x4 x5 x6 x7
      clear S4 T4
      generalize (((((((w4.setCell _ _).setCell _ _).setCell _ _).setCell _ _).setCell _ _).setCell _ _).setCell _ _).setCell _ _ = w5 at S5 T5 ⊢
      obtain ⟨fxz, x0, x1, x2, x3, x4, x5, x6, x7⟩ := box8s S5.out
      obtain ⟨fyz, y0, y1, y2, y3, y4, y5, y6, y7⟩ := box8s T5.out.r
      go_wp2
      have P9 := put8 T5.out.r (.int .i64 3) (.int .i64 0) (.int .i64 0) (.int .i64 p1) (.int .i64 p2) (.int .u64 p3) (.int .u64 p4) (.string p5)
      have Q9 := T5.out.out8 (.int .i64 3) (.int .i64 0) (.int .i64 0) (.int .i64 p1) (.int .i64 p2) (.int .u64 p3) (.int .u64 p4) (.string p5)
      refine bodyPost_ret (results_cell_row rfl _ _ br 44 #[.int .i64 3, .int .i64 0, .int .i64 0, .int .i64 p1, .int .i64 p2, .int .u64 p3, .int .u64 p4, .string p5] (0, 0) _ rfl P9 Try.underlying44 rfl (by kernel_rfl)) rfl ?_
      exact ⟨rfl, Q9⟩
    rw [if_neg c36] at H
    by_cases c37 : n < 37
    · rw [if_pos c37] at H
      replace H := Option.bind_eq_some_iff.mp H
      obtain ⟨m, A60, H⟩ := H
      have A6 := Lib.hid A60
      clear A60
      replace H := Option.bind_eq_some_iff.mp H
      obtain ⟨⟨q, s2⟩, A70, H⟩ := H
      have A7 := Lib.hid A70
      clear A70
      simp only [Option.some.injEq, Prod.mk.injEq] at H
      obtain ⟨rfl, rfl, rfl, rfl, rfl, rfl, rfl, rfl, rfl⟩ := H
      obtain ⟨k0, k1, k2, k3, k4, k5, k6, k7, k8, k9, k10, k11⟩ := cells12 T3.out.c
      go_wp2_with fail
      clear k0 k1 k2 k3 k4 k5 k6 k7 k8 k9 k10 k11
      refine (conf_Workers.calls A1_0 c1_0 l1_0 a1_1 a1_2 a1_3 a1_4 a1_5 a1_6 a1_7 a1_8 a1_9 a1_10 a1_11 m w3 (Kd.C_keep false HR.out T3.out.k HF.out) HC.out A6.out).mono ?_
      rintro e w9 ⟨rfl, hb9⟩
      have T9 := Lib.hid (T3.out.below hb9)
      have S9 := Lib.hid (blk_below S3.out hb9)
      clear hb9 T3 S3
      go_wp2_with fail
      refine (dice_Dice_Below.calls g s1 m q s2 w0 w9 T9.out.i T9.out.b A7.out).mono ?_
      rintro e w4 ⟨rfl, hi, hb, hk⟩
      have T4 := Lib.hid (T9.out.turn hi hb hk)
      have S4 := Lib.hid ((hk.2 _ (blk_lt S9.out) (by omega) (by simp)).trans S9.out)
      clear hi hb hk T9 S9
      obtain ⟨fxz, x0, x1, x2, x3, x4, x5, x6, x7⟩ := box8s S4.out
      go_upto_region 22 with (fail)
      have S5 := Lib.hid (put8 S4.out (.int .i64 5) (.int .i64 0) (.int .i64 q) (.int .i64 0) (.int .i64 0) (.int .u64 0) (.int .u64 0) (.string (⟨#[]⟩ : ByteArray)))
      have T5 := Lib.hid (T4.out.set8 (bs := bs) (.int .i64 5) (.int .i64 0) (.int .i64 q) (.int .i64 0) (.int .i64 0) (.int .u64 0) (.int .u64 0) (.string (⟨#[]⟩ : ByteArray)) n9 n5 n2 n3)
      clear fxz x0 x1 x2 x3 x4 x5 x6 x7
      clear S4 T4
      generalize (((((((w4.setCell _ _).setCell _ _).setCell _ _).setCell _ _).setCell _ _).setCell _ _).setCell _ _).setCell _ _ = w5 at S5 T5 ⊢
      obtain ⟨fxz, x0, x1, x2, x3, x4, x5, x6, x7⟩ := box8s S5.out
      obtain ⟨fyz, y0, y1, y2, y3, y4, y5, y6, y7⟩ := box8s T5.out.r
      go_wp2
      have P9 := put8 T5.out.r (.int .i64 5) (.int .i64 0) (.int .i64 q) (.int .i64 0) (.int .i64 0) (.int .u64 0) (.int .u64 0) (.string (⟨#[]⟩ : ByteArray))
      have Q9 := T5.out.out8 (.int .i64 5) (.int .i64 0) (.int .i64 q) (.int .i64 0) (.int .i64 0) (.int .u64 0) (.int .u64 0) (.string (⟨#[]⟩ : ByteArray))
      refine bodyPost_ret (results_cell_row rfl _ _ br 44 #[.int .i64 5, .int .i64 0, .int .i64 q, .int .i64 0, .int .i64 0, .int .u64 0, .int .u64 0, .string (⟨#[]⟩ : ByteArray)] (0, 0) _ rfl P9 Try.underlying44 rfl (by kernel_rfl)) rfl ?_
      exact ⟨rfl, Q9⟩
    rw [if_neg c37] at H
    by_cases c38 : n < 38
    · rw [if_pos c38] at H
      replace H := Option.bind_eq_some_iff.mp H
      obtain ⟨⟨q, s2⟩, A70, H⟩ := H
      have A7 := Lib.hid A70
      clear A70
      replace H := Option.bind_eq_some_iff.mp H
      obtain ⟨⟨r, s3⟩, A80, H⟩ := H
      have A8 := Lib.hid A80
      clear A80
      simp only [Option.some.injEq, Prod.mk.injEq] at H
      obtain ⟨rfl, rfl, rfl, rfl, rfl, rfl, rfl, rfl, rfl⟩ := H
      go_wp2_with fail
      refine (dice_Dice_Below.calls g s1 2 q s2 w0 w3 T3.out.i T3.out.b A7.out).mono ?_
      rintro e w4 ⟨rfl, hi, hb, hk⟩
      have T4 := Lib.hid (T3.out.turn hi hb hk)
      have S4 := Lib.hid ((hk.2 _ (blk_lt S3.out) (by omega) (by simp)).trans S3.out)
      clear hi hb hk T3 S3
      obtain ⟨fxz, x0, x1, x2, x3, x4, x5, x6, x7⟩ := box8s S4.out
      have k1 := (blk_cell T4.out.c 1).trans rfl
      go_wp2_with fail
      clear fxz x0 x1 x2 x3 x4 x5 x6 x7
      clear k1
      have S5 := Lib.hid (blk_put (blk_put S4.out 0 (.int .i64 6) rfl) 1 (.int .i64 q) rfl)
      have T5 := Lib.hid ((T4.out.set (bs := bs) (i := 0) (.int .i64 6) n9 n5 n2 n3).set (bs := bs) (i := 1) (.int .i64 q) n9 n5 n2 n3)
      clear S4 T4
      generalize (w4.setCell _ _).setCell _ _ = w5 at S5 T5 ⊢
      refine (dice_Dice_some.calls g s2 a1_1 r s3 w0 w5 T5.out.i T5.out.b A8.out).mono ?_
      rintro e w6 ⟨rfl, hi, hb, hk⟩
      have T6 := Lib.hid (T5.out.turn hi hb hk)
      have S6 := Lib.hid ((hk.2 _ (blk_lt S5.out) (by omega) (by simp)).trans S5.out)
      clear hi hb hk T5 S5
      obtain ⟨fxz, x0, x1, x2, x3, x4, x5, x6, x7⟩ := box8s S6.out
      go_upto_region 22 with (fail)
      clear fxz x0 x1 x2 x3 x4 x5 x6 x7
      have S7 := Lib.hid (blk_put S6.out 2 (.int .i64 r) rfl)
      have T7 := Lib.hid (T6.out.set (bs := bs) (i := 2) (.int .i64 r) n9 n5 n2 n3)
      clear S6 T6
      generalize w6.setCell _ _ = w7 at S7 T7 ⊢
      have S7 : Hid (w7.heap[bs]? = some (.cells #[.int .i64 6, .int .i64 q, .int .i64 r, .int .i64 0, .int .i64 0, .int .u64 0, .int .u64 0, .string (⟨#[]⟩ : ByteArray)] 44 (0, 0))) := S7
      obtain ⟨fxz, x0, x1, x2, x3, x4, x5, x6, x7⟩ := box8s S7.out
      obtain ⟨fyz, y0, y1, y2, y3, y4, y5, y6, y7⟩ := box8s T7.out.r
      go_wp2
      have P9 := put8 T7.out.r (.int .i64 6) (.int .i64 q) (.int .i64 r) (.int .i64 0) (.int .i64 0) (.int .u64 0) (.int .u64 0) (.string (⟨#[]⟩ : ByteArray))
      have Q9 := T7.out.out8 (.int .i64 6) (.int .i64 q) (.int .i64 r) (.int .i64 0) (.int .i64 0) (.int .u64 0) (.int .u64 0) (.string (⟨#[]⟩ : ByteArray))
      refine bodyPost_ret (results_cell_row rfl _ _ br 44 #[.int .i64 6, .int .i64 q, .int .i64 r, .int .i64 0, .int .i64 0, .int .u64 0, .int .u64 0, .string (⟨#[]⟩ : ByteArray)] (0, 0) _ rfl P9 Try.underlying44 rfl (by kernel_rfl)) rfl ?_
      exact ⟨rfl, Q9⟩
    rw [if_neg c38] at H
    by_cases c39 : n < 39
    · rw [if_pos c39] at H
      replace H := Option.bind_eq_some_iff.mp H
      obtain ⟨⟨q, s2⟩, A70, H⟩ := H
      have A7 := Lib.hid A70
      clear A70
      simp only [Option.some.injEq, Prod.mk.injEq] at H
      obtain ⟨rfl, rfl, rfl, rfl, rfl, rfl, rfl, rfl, rfl⟩ := H
      go_wp2_with fail
      refine (dice_Dice_Below.calls g s1 2 q s2 w0 w3 T3.out.i T3.out.b A7.out).mono ?_
      rintro e w4 ⟨rfl, hi, hb, hk⟩
      have T4 := Lib.hid (T3.out.turn hi hb hk)
      have S4 := Lib.hid ((hk.2 _ (blk_lt S3.out) (by omega) (by simp)).trans S3.out)
      clear hi hb hk T3 S3
      obtain ⟨fxz, x0, x1, x2, x3, x4, x5, x6, x7⟩ := box8s S4.out
      go_upto_region 22 with (fail)
      have S5 := Lib.hid (put8 S4.out (.int .i64 4) (.int .i64 q) (.int .i64 0) (.int .i64 0) (.int .i64 0) (.int .u64 0) (.int .u64 0) (.string (⟨#[]⟩ : ByteArray)))
      have T5 := Lib.hid (T4.out.set8 (bs := bs) (.int .i64 4) (.int .i64 q) (.int .i64 0) (.int .i64 0) (.int .i64 0) (.int .u64 0) (.int .u64 0) (.string (⟨#[]⟩ : ByteArray)) n9 n5 n2 n3)
      clear fxz x0 x1 x2 x3 x4 x5 x6 x7
      clear S4 T4
      generalize (((((((w4.setCell _ _).setCell _ _).setCell _ _).setCell _ _).setCell _ _).setCell _ _).setCell _ _).setCell _ _ = w5 at S5 T5 ⊢
      obtain ⟨fxz, x0, x1, x2, x3, x4, x5, x6, x7⟩ := box8s S5.out
      obtain ⟨fyz, y0, y1, y2, y3, y4, y5, y6, y7⟩ := box8s T5.out.r
      go_wp2
      have P9 := put8 T5.out.r (.int .i64 4) (.int .i64 q) (.int .i64 0) (.int .i64 0) (.int .i64 0) (.int .u64 0) (.int .u64 0) (.string (⟨#[]⟩ : ByteArray))
      have Q9 := T5.out.out8 (.int .i64 4) (.int .i64 q) (.int .i64 0) (.int .i64 0) (.int .i64 0) (.int .u64 0) (.int .u64 0) (.string (⟨#[]⟩ : ByteArray))
      refine bodyPost_ret (results_cell_row rfl _ _ br 44 #[.int .i64 4, .int .i64 q, .int .i64 0, .int .i64 0, .int .i64 0, .int .u64 0, .int .u64 0, .string (⟨#[]⟩ : ByteArray)] (0, 0) _ rfl P9 Try.underlying44 rfl (by kernel_rfl)) rfl ?_
      exact ⟨rfl, Q9⟩
    rw [if_neg c39] at H
    replace H := Option.bind_eq_some_iff.mp H
    obtain ⟨⟨q, s2⟩, A70, H⟩ := H
    have A7 := Lib.hid A70
    clear A70
    obtain ⟨fxz, x0, x1, x2, x3, x4, x5, x6, x7⟩ := box8s S3.out
    go_wp2_with fail
    clear fxz x0 x1 x2 x3 x4 x5 x6 x7
    have S4 := Lib.hid (blk_put S3.out 0 (.int .i64 8) rfl)
    have T4 := Lib.hid (T3.out.set (bs := bs) (i := 0) (.int .i64 8) n9 n5 n2 n3)
    clear S3 T3
    generalize w3.setCell _ _ = w4 at S4 T4 ⊢
    refine (dice_Dice_Below.calls g s1 4 q s2 w0 w4 T4.out.i T4.out.b A7.out).mono ?_
    rintro e w5 ⟨rfl, hi, hb, hk⟩
    have T5 := Lib.hid (T4.out.turn hi hb hk)
    have S5 := Lib.hid ((hk.2 _ (blk_lt S4.out) (by omega) (by simp)).trans S4.out)
    clear hi hb hk T4 S4
    have S5 : Hid (w5.heap[bs]? = some (.cells #[.int .i64 8, .int .i64 0, .int .i64 0, .int .i64 0, .int .i64 0, .int .u64 0, .int .u64 0, .string (⟨#[]⟩ : ByteArray)] 44 (0, 0))) := S5
    by_cases c0 : q = 0
    · rw [if_pos c0] at H
      simp only [Option.some.injEq, Prod.mk.injEq] at H
      obtain ⟨rfl, rfl, rfl, rfl, rfl, rfl, rfl, rfl, rfl⟩ := H
      have d0 : (q == 0) = true := by simpa using c0
      clear c0
      obtain ⟨fxz, x0, x1, x2, x3, x4, x5, x6, x7⟩ := box8s S5.out
      go_upto_region 22 with (fail)
      clear fxz x0 x1 x2 x3 x4 x5 x6 x7
      have S6 : Hid ((w5.setCell ⟨bs, 0, none⟩ (.int .i64 7)).heap[bs]? = some (.cells #[.int .i64 7, .int .i64 0, .int .i64 0, .int .i64 0, .int .i64 0, .int .u64 0, .int .u64 0, .string (⟨#[]⟩ : ByteArray)] 44 (0, 0))) := Lib.hid (blk_put S5.out 0 (.int .i64 7) rfl)
      have T6 := Lib.hid (T5.out.set (bs := bs) (i := 0) (.int .i64 7) n9 n5 n2 n3)
      clear S5 T5
      generalize w5.setCell _ _ = w6 at S6 T6 ⊢
      obtain ⟨fxz, x0, x1, x2, x3, x4, x5, x6, x7⟩ := box8s S6.out
      obtain ⟨fyz, y0, y1, y2, y3, y4, y5, y6, y7⟩ := box8s T6.out.r
      go_wp2
      have P9 := put8 T6.out.r (.int .i64 7) (.int .i64 0) (.int .i64 0) (.int .i64 0) (.int .i64 0) (.int .u64 0) (.int .u64 0) (.string (⟨#[]⟩ : ByteArray))
      have Q9 := T6.out.out8 (.int .i64 7) (.int .i64 0) (.int .i64 0) (.int .i64 0) (.int .i64 0) (.int .u64 0) (.int .u64 0) (.string (⟨#[]⟩ : ByteArray))
      refine bodyPost_ret (results_cell_row rfl _ _ br 44 #[.int .i64 7, .int .i64 0, .int .i64 0, .int .i64 0, .int .i64 0, .int .u64 0, .int .u64 0, .string (⟨#[]⟩ : ByteArray)] (0, 0) _ rfl P9 Try.underlying44 rfl (by kernel_rfl)) rfl ?_
      exact ⟨rfl, Q9⟩
    · rw [if_neg c0] at H
      simp only [Option.some.injEq, Prod.mk.injEq] at H
      obtain ⟨rfl, rfl, rfl, rfl, rfl, rfl, rfl, rfl, rfl⟩ := H
      have d0 : (q == 0) = false := by simpa using c0
      clear c0
      go_upto_region 22 with (fail)
      obtain ⟨fxz, x0, x1, x2, x3, x4, x5, x6, x7⟩ := box8s S5.out
      obtain ⟨fyz, y0, y1, y2, y3, y4, y5, y6, y7⟩ := box8s T5.out.r
      go_wp2
      have P9 := put8 T5.out.r (.int .i64 8) (.int .i64 0) (.int .i64 0) (.int .i64 0) (.int .i64 0) (.int .u64 0) (.int .u64 0) (.string (⟨#[]⟩ : ByteArray))
      have Q9 := T5.out.out8 (.int .i64 8) (.int .i64 0) (.int .i64 0) (.int .i64 0) (.int .i64 0) (.int .u64 0) (.int .u64 0) (.string (⟨#[]⟩ : ByteArray))
      refine bodyPost_ret (results_cell_row rfl _ _ br 44 #[.int .i64 8, .int .i64 0, .int .i64 0, .int .i64 0, .int .i64 0, .int .u64 0, .int .u64 0, .string (⟨#[]⟩ : ByteArray)] (0, 0) _ rfl P9 Try.underlying44 rfl (by kernel_rfl)) rfl ?_
      exact ⟨rfl, Q9⟩
  · rw [if_neg c4] at H
    simp only [Option.some.injEq, Prod.mk.injEq] at H
    obtain ⟨rfl, rfl, rfl, rfl, rfl, rfl, rfl, rfl, rfl⟩ := H
    have d4 : (t1 != 0) = true := by simpa using c4
    clear c4
    go_enter Try.func18, Try.ntmps18
    go_wp2_with fail
    refine (conf_Check.calls A1_0 c1_0 l1_0 a1_1 a1_2 a1_3 a1_4 a1_5 a1_6 a1_7 a1_8 a1_9 a1_10 a1_11 t0 t1 _ (Kd.C_alloc (Kd.C_alloc HR.out _) _) HC.out A3.out).mono ?_
    rintro e w1 ⟨rfl, hb1⟩
    have T1 := Lib.hid (HT.out.below hb1)
    clear hb1 HT
    obtain ⟨br, hbr⟩ : ∃ br, w.heap.size + 1 = br := ⟨_, rfl⟩
    rw [hbr] at T1
    obtain ⟨fyz, y0, y1, y2, y3, y4, y5, y6, y7⟩ := box8s T1.out.r
    go_wp2
    have P9 := put8 T1.out.r (.int .i64 0) (.int .i64 0) (.int .i64 0) (.int .i64 0) (.int .i64 0) (.int .u64 0) (.int .u64 0) (.string (⟨#[]⟩ : ByteArray))
    have Q9 := T1.out.out8 (.int .i64 0) (.int .i64 0) (.int .i64 0) (.int .i64 0) (.int .i64 0) (.int .u64 0) (.int .u64 0) (.string (⟨#[]⟩ : ByteArray))
    refine bodyPost_ret (results_cell_row rfl _ _ br 44 #[.int .i64 0, .int .i64 0, .int .i64 0, .int .i64 0, .int .i64 0, .int .u64 0, .int .u64 0, .string (⟨#[]⟩ : ByteArray)] (0, 0) _ rfl P9 Try.underlying44 rfl (by kernel_rfl)) rfl ?_
    exact ⟨rfl, Q9⟩
end Go.Proofs.Ytlfminnncfgbfaa.PDiceScripts
