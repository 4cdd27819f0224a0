/- Written for this claim by a program of the session (wip/tools/inject.py) over the kit's print; what is proved by hand is imported. -/
import Derived.Test.YtlfminnncfgbfaaPDiceScriptsx0
import Derived.Test.YtlfminnncfgbfaaPDiceScriptsx5
namespace Go.Proofs.Ytlfminnncfgbfaa.PDiceScripts
open Go.Proofs.Ytlfminnncfgbfaa.Hand
open Go.RowKit Go.Proofs.YtlfminnncfgbfaaW.PrintWords Go.Proofs.YtlfminnncfgbfaaW.PrintLast Go.Proofs.YtlfminnncfgbfaaW.PrintMore
attribute [local go_sem] max2_int min2_int max_two min_two max_three min_three max_four min_four   -- for this text's walks alone
set_option linter.unusedVariables false
set_option linter.unusedSimpArgs false

/-! ### muleteerref40_Dice_Step: function 19 -/
mutual
def muleteerref40_Dice_Step.j0 : Nat → Int → Int → Int → Int → Int → Int → Int → Int → ByteArray → Option (Int × Int × Int × Int × Int × Int × Int × ByteArray × Int)
  | 0, _, _, _, _, _, _, _, _, _ => none
  | k + 1, x1000, x260000, x260001, x260002, x260003, x260004, x260005, x260006, x260007 => (muleteerref40_Dice_Below.f x1000 4).bind fun bt274 => (muleteerref40_Dice_Step.l0 k bt274.1 0 bt274.2 x260000 x260001 x260002 x260003 x260004 x260005 x260006 x260007)
def muleteerref40_Dice_Step.l0 : Nat → Int → Int → Int → Int → Int → Int → Int → Int → Int → Int → ByteArray → Option (Int × Int × Int × Int × Int × Int × Int × ByteArray × Int)
  | 0, _, _, _, _, _, _, _, _, _, _, _ => none
  | k + 1, x7, x8, x1000, x260000, x260001, x260002, x260003, x260004, x260005, x260006, x260007 => if x8 < x7 then (if x260007.size + 1 ≤ 9223372036854775807 then (muleteerref40_Dice_Step.l0 k x7 (wrap64 (x8 + 1)) x1000 x260000 x260001 x260002 x260003 x260004 x260005 x260006 (x260007 ++ (⟨#[97]⟩ : ByteArray))) else (none)) else (some (x260000, x260001, x260002, x260003, x260004, x260005, x260006, x260007, x1000))
end
def muleteerref40_Dice_Step.f (k : Nat) (s0_0 : Int) (l1_0 : List Bool) (a1_1 : Int) (a1_2 : Int) (a1_3 : Int) (a1_4 : Int) (a1_5 : Int) (a1_6 : Int) (a1_7 : Int) (a1_8 : Int) (a1_9 : Int) (a1_10 : Int) (a1_11 : Int) : Option (Int × Int × Int × Int × Int × Int × Int × ByteArray × Int) := (muleteerref40_Dice_Below.f s0_0 40).bind fun bt260 => (if bt260.1 ≤ 27 then ((muleteerref40_Dice_Below.f bt260.2 16).bind fun bt262 => (some (1, 0, bt262.1, 0, 0, 0, 0, (⟨#[]⟩ : ByteArray), bt262.2))) else (if bt260.1 ≤ 32 then ((muleteerref40_Dice_Below.f bt260.2 2).bind fun bt264 => (some (2, bt264.1, 0, 0, 0, 0, 0, (⟨#[]⟩ : ByteArray), bt264.2))) else (if bt260.1 ≤ 35 then ((muleteerref40_Dice_Below.f bt260.2 (l1_0.length : Int)).bind fun bt266 => ((muleteerref40_Dice_Below.f bt266.2 2).bind fun bt268 => ((muleteerref40_Dice_Below.f bt268.2 2).bind fun bt270 => (if bt270.1 = 0 then (muleteerref40_Dice_Step.j0 k bt270.2 3 0 0 bt266.1 bt268.1 0 0 (⟨#[]⟩ : ByteArray)) else ((muleteerref40_Dice_Below.f bt270.2 20).bind fun bt272 => (muleteerref40_Dice_Step.j0 k bt272.2 3 0 0 bt266.1 bt268.1 0 (IntKind.u64.wrap (wrap64 (1 + bt272.1))) (⟨#[]⟩ : ByteArray))))))) else (if bt260.1 = 36 then ((muleteerref40_Dice_Below.f bt260.2 (wrap64 (2 * (l1_0.length : Int)))).bind fun bt276 => (some (5, 0, bt276.1, 0, 0, 0, 0, (⟨#[]⟩ : ByteArray), bt276.2))) else (if bt260.1 = 37 then ((muleteerref40_Dice_Below.f bt260.2 2).bind fun bt278 => ((muleteerref40_Dice_Below.f bt278.2 a1_1).bind fun bt280 => (some (6, bt278.1, wrap64 (1 + bt280.1), 0, 0, 0, 0, (⟨#[]⟩ : ByteArray), bt280.2)))) else (if bt260.1 = 38 then ((muleteerref40_Dice_Below.f bt260.2 2).bind fun bt282 => (some (4, bt282.1, 0, 0, 0, 0, 0, (⟨#[]⟩ : ByteArray), bt282.2))) else ((muleteerref40_Dice_Below.f bt260.2 4).bind fun bt284 => (if bt284.1 = 0 then (some (7, 0, 0, 0, 0, 0, 0, (⟨#[]⟩ : ByteArray), bt284.2)) else (some (8, 0, 0, 0, 0, 0, 0, (⟨#[]⟩ : ByteArray), bt284.2))))))))))
theorem muleteerref40_Dice_Step.mono_l : ∀ k, (∀ y0 y1 y2 y3 y4 y5 y6 y7 y8, LeO (muleteerref40_Dice_Step.j0 k y0 y1 y2 y3 y4 y5 y6 y7 y8) (muleteerref40_Dice_Step.j0 (k + 1) y0 y1 y2 y3 y4 y5 y6 y7 y8)) ∧ (∀ y0 y1 y2 y3 y4 y5 y6 y7 y8 y9 y10, LeO (muleteerref40_Dice_Step.l0 k y0 y1 y2 y3 y4 y5 y6 y7 y8 y9 y10) (muleteerref40_Dice_Step.l0 (k + 1) y0 y1 y2 y3 y4 y5 y6 y7 y8 y9 y10))
  | 0 => ⟨fun _ _ _ _ _ _ _ _ _ r h => by simp [muleteerref40_Dice_Step.j0] at h, fun _ _ _ _ _ _ _ _ _ _ _ r h => by simp [muleteerref40_Dice_Step.l0] at h⟩
  | k + 1 => by
    obtain ⟨ih0, ih1⟩ := muleteerref40_Dice_Step.mono_l k
    refine ⟨?_, ?_⟩
    · intro y0 y1 y2 y3 y4 y5 y6 y7 y8
      unfold muleteerref40_Dice_Step.j0
      repeat' first
      | (with_reducible exact ih0 _ _ _ _ _ _ _ _ _)
      | (with_reducible exact ih1 _ _ _ _ _ _ _ _ _ _ _)
      | (with_reducible exact LeO.refl _)
      | (with_reducible exact LeO.none _)
      | (with_reducible refine LeO.ite ?_ ?_)
      | (with_reducible refine LeO.bind ?_ (fun _ => ?_))
      | exact ih0 _ _ _ _ _ _ _ _ _
      | exact ih1 _ _ _ _ _ _ _ _ _ _ _
      | exact LeO.none _
      | refine LeO.ite ?_ ?_
      | refine LeO.bind ?_ (fun _ => ?_)
    · intro y0 y1 y2 y3 y4 y5 y6 y7 y8 y9 y10
      unfold muleteerref40_Dice_Step.l0
      repeat' first
      | (with_reducible exact ih0 _ _ _ _ _ _ _ _ _)
      | (with_reducible exact ih1 _ _ _ _ _ _ _ _ _ _ _)
      | (with_reducible exact LeO.refl _)
      | (with_reducible exact LeO.none _)
      | (with_reducible refine LeO.ite ?_ ?_)
      | (with_reducible refine LeO.bind ?_ (fun _ => ?_))
      | exact ih0 _ _ _ _ _ _ _ _ _
      | exact ih1 _ _ _ _ _ _ _ _ _ _ _
      | exact LeO.none _
      | refine LeO.ite ?_ ?_
      | refine LeO.bind ?_ (fun _ => ?_)
theorem muleteerref40_Dice_Step.mono : ∀ a0 a1 a2 a3 a4 a5 a6 a7 a8 a9 a10 a11 a12 k, LeO (muleteerref40_Dice_Step.f k a0 a1 a2 a3 a4 a5 a6 a7 a8 a9 a10 a11 a12) (muleteerref40_Dice_Step.f (k + 1) a0 a1 a2 a3 a4 a5 a6 a7 a8 a9 a10 a11 a12) := by
  intro a0 a1 a2 a3 a4 a5 a6 a7 a8 a9 a10 a11 a12 k
  obtain ⟨ih0, ih1⟩ := muleteerref40_Dice_Step.mono_l k
  unfold muleteerref40_Dice_Step.f
  repeat' first
      | (with_reducible exact ih0 _ _ _ _ _ _ _ _ _)
      | (with_reducible exact ih1 _ _ _ _ _ _ _ _ _ _ _)
      | (with_reducible exact LeO.refl _)
      | (with_reducible exact LeO.none _)
      | (with_reducible refine LeO.ite ?_ ?_)
      | (with_reducible refine LeO.bind ?_ (fun _ => ?_))
      | exact ih0 _ _ _ _ _ _ _ _ _
      | exact ih1 _ _ _ _ _ _ _ _ _ _ _
      | exact LeO.none _
      | refine LeO.ite ?_ ?_
      | refine LeO.bind ?_ (fun _ => ?_)
/-- What a step keeps: the dice, the box of the result, the box of the config. -/
structure StIQ (w0 w W : World) (g bc br : Nat) (cfg : Array Value) (s : Int) : Prop where
  i : IsS32 w0 W g s
  b : Below w0.heap.size w0 W
  k : KeepBut w W g none
  c : W.heap[bc]? = some (.cells cfg 25 (0, 0))
  r : W.heap[br]? = some (.cells #[.int .i64 0, .int .i64 0, .int .i64 0, .int .i64 0, .int .i64 0, .int .u64 0, .int .u64 0, .string (⟨#[]⟩ : ByteArray)] 44 (0, 0))
  gc : g < bc
  gr : g < br
  wr : w.heap.size ≤ br
  hw : w0.heap.size ≤ w.heap.size
theorem StIQ.below {w0 w W W' : World} {g bc br : Nat} {cfg : Array Value} {s : Int} (T : StIQ w0 w W g bc br cfg s) (h : Below W.heap.size W W') : StIQ w0 w W' g bc br cfg s :=
  ⟨T.i.below h, below_step T.b h, T.k.trans (KeepBut.of_below h g none) (.inl rfl), blk_below T.c h, blk_below T.r h, T.gc, T.gr, T.wr, T.hw⟩
theorem StIQ.turn {w0 w W W' : World} {g bc br : Nat} {cfg : Array Value} {s s' : Int} (T : StIQ w0 w W g bc br cfg s) (hi : IsS32 w0 W' g s') (hb : Below w0.heap.size w0 W') (hk : KeepBut W W' g none) : StIQ w0 w W' g bc br cfg s' :=
  ⟨hi, hb, T.k.trans hk (.inl rfl), (hk.2 bc (blk_lt T.c) (by have := T.gc; omega) (by simp)).trans T.c, (hk.2 br (blk_lt T.r) (by have := T.gr; omega) (by simp)).trans T.r, T.gc, T.gr, T.wr, T.hw⟩
theorem StIQ.start {w0 w : World} {g : Nat} {cfg : Array Value} {s : Int} (hI : IsS32 w0 w g s) (hB : Below w0.heap.size w0 w) : StIQ w0 w ((w.alloc (.cells cfg 25)).alloc (.cells #[.int .i64 0, .int .i64 0, .int .i64 0, .int .i64 0, .int .i64 0, .int .u64 0, .int .u64 0, .string (⟨#[]⟩ : ByteArray)] 44)) g w.heap.size (w.heap.size + 1) cfg s := by
  have hg := blk_lt hI.1
  have h2 := blk_new (w.alloc (.cells cfg 25)) (.cells #[.int .i64 0, .int .i64 0, .int .i64 0, .int .i64 0, .int .i64 0, .int .u64 0, .int .u64 0, .string (⟨#[]⟩ : ByteArray)] 44)
  rw [World.size_alloc] at h2
  have hb : Below w.heap.size w ((w.alloc (.cells cfg 25)).alloc (.cells #[.int .i64 0, .int .i64 0, .int .i64 0, .int .i64 0, .int .i64 0, .int .u64 0, .int .u64 0, .string (⟨#[]⟩ : ByteArray)] 44)) := below_alloc (below_alloc (Below.refl _ _) _) _
  exact ⟨hI.below hb, below_step hB hb, KeepBut.of_below hb g none, blk_alloc (blk_new w _) _, h2, hg, by omega, by omega, hB.size⟩
theorem StIQ.set {w0 w W : World} {g bc br : Nat} {cfg : Array Value} {s : Int} (T : StIQ w0 w W g bc br cfg s) {bs i : Nat} (u : Value) (h1 : bs ≠ bc) (h2 : bs ≠ br) (h3 : g < bs) (h4 : w.heap.size ≤ bs) : StIQ w0 w (W.setCell ⟨bs, i, none⟩ u) g bc br cfg s :=
  ⟨T.i.far (p := ⟨bs, i, none⟩) (by show g ≠ bs; omega) u, below_set T.b (Nat.le_trans T.hw h4), keep_far T.k (p := ⟨bs, i, none⟩) h4 u, blk_far T.c (p := ⟨bs, i, none⟩) (Ne.symm h1) u, blk_far T.r (p := ⟨bs, i, none⟩) (Ne.symm h2) u, T.gc, T.gr, T.wr, T.hw⟩
set_option maxHeartbeats 4000000 in
theorem put8Q {W : World} {b T : Nat} {p0 p1 p2 p3 p4 p5 p6 p7 : Value} (S : W.heap[b]? = some (.cells #[p0, p1, p2, p3, p4, p5, p6, p7] T (0, 0))) (u0 u1 u2 u3 u4 u5 u6 u7 : Value) :
    ((((((((W.setCell ⟨b, 0, none⟩ u0).setCell ⟨b, 1, none⟩ u1).setCell ⟨b, 2, none⟩ u2).setCell ⟨b, 3, none⟩ u3).setCell ⟨b, 4, none⟩ u4).setCell ⟨b, 5, none⟩ u5).setCell ⟨b, 6, none⟩ u6).setCell ⟨b, 7, none⟩ u7).heap[b]? = some (.cells #[u0, u1, u2, u3, u4, u5, u6, u7] T (0, 0)) := by
  have s0 := blk_put S 0 u0 rfl
  have s1 := blk_put s0 1 u1 rfl
  have s2 := blk_put s1 2 u2 rfl
  have s3 := blk_put s2 3 u3 rfl
  have s4 := blk_put s3 4 u4 rfl
  have s5 := blk_put s4 5 u5 rfl
  have s6 := blk_put s5 6 u6 rfl
  exact blk_put s6 7 u7 rfl
theorem StIQ.set8 {w0 w W : World} {g bc br : Nat} {cfg : Array Value} {s : Int} (T : StIQ w0 w W g bc br cfg s) {bs : Nat} (u0 u1 u2 u3 u4 u5 u6 u7 : Value) (h1 : bs ≠ bc) (h2 : bs ≠ br) (h3 : g < bs) (h4 : w.heap.size ≤ bs) :
    StIQ w0 w ((((((((W.setCell ⟨bs, 0, none⟩ u0).setCell ⟨bs, 1, none⟩ u1).setCell ⟨bs, 2, none⟩ u2).setCell ⟨bs, 3, none⟩ u3).setCell ⟨bs, 4, none⟩ u4).setCell ⟨bs, 5, none⟩ u5).setCell ⟨bs, 6, none⟩ u6).setCell ⟨bs, 7, none⟩ u7) g bc br cfg s :=
  (((((((T.set u0 h1 h2 h3 h4).set u1 h1 h2 h3 h4).set u2 h1 h2 h3 h4).set u3 h1 h2 h3 h4).set u4 h1 h2 h3 h4).set u5 h1 h2 h3 h4).set u6 h1 h2 h3 h4).set u7 h1 h2 h3 h4
theorem out1Q {w0 w W : World} {g br j : Nat} {s : Int} (u : Value) (T : IsS32 w0 W g s ∧ Below w0.heap.size w0 W ∧ KeepBut w W g none) (h1 : g < br) (h2 : w.heap.size ≤ br) (h3 : w0.heap.size ≤ w.heap.size) : IsS32 w0 (W.setCell ⟨br, j, none⟩ u) g s ∧ Below w0.heap.size w0 (W.setCell ⟨br, j, none⟩ u) ∧ KeepBut w (W.setCell ⟨br, j, none⟩ u) g none :=
  ⟨T.1.far (p := ⟨br, j, none⟩) (by show g ≠ br; omega) u, below_set T.2.1 (Nat.le_trans h3 h2), keep_far T.2.2 (p := ⟨br, j, none⟩) h2 u⟩
theorem StIQ.out8 {w0 w W : World} {g bc br : Nat} {cfg : Array Value} {s : Int} (T : StIQ w0 w W g bc br cfg s) (u0 u1 u2 u3 u4 u5 u6 u7 : Value) :
    IsS32 w0 ((((((((W.setCell ⟨br, 0, none⟩ u0).setCell ⟨br, 1, none⟩ u1).setCell ⟨br, 2, none⟩ u2).setCell ⟨br, 3, none⟩ u3).setCell ⟨br, 4, none⟩ u4).setCell ⟨br, 5, none⟩ u5).setCell ⟨br, 6, none⟩ u6).setCell ⟨br, 7, none⟩ u7) g s ∧
    Below w0.heap.size w0 ((((((((W.setCell ⟨br, 0, none⟩ u0).setCell ⟨br, 1, none⟩ u1).setCell ⟨br, 2, none⟩ u2).setCell ⟨br, 3, none⟩ u3).setCell ⟨br, 4, none⟩ u4).setCell ⟨br, 5, none⟩ u5).setCell ⟨br, 6, none⟩ u6).setCell ⟨br, 7, none⟩ u7) ∧
    KeepBut w ((((((((W.setCell ⟨br, 0, none⟩ u0).setCell ⟨br, 1, none⟩ u1).setCell ⟨br, 2, none⟩ u2).setCell ⟨br, 3, none⟩ u3).setCell ⟨br, 4, none⟩ u4).setCell ⟨br, 5, none⟩ u5).setCell ⟨br, 6, none⟩ u6).setCell ⟨br, 7, none⟩ u7) g none :=
  out1Q u7 (out1Q u6 (out1Q u5 (out1Q u4 (out1Q u3 (out1Q u2 (out1Q u1 (out1Q u0 ⟨T.i, T.b, T.k⟩ T.gr T.wr T.hw) T.gr T.wr T.hw) T.gr T.wr T.hw) T.gr T.wr T.hw) T.gr T.wr T.hw) T.gr T.wr T.hw) T.gr T.wr T.hw) T.gr T.wr T.hw
theorem box8sQ {w : World} {g : Nat} {a b c d e f x y : Value} {T : Nat} (h : w.heap[g]? = some (.cells #[a, b, c, d, e, f, x, y] T (0, 0))) :
    (∀ o, w.frozen? ⟨g, o, none⟩ = false) ∧ w.cell? ⟨g, 0, none⟩ = some a ∧ w.cell? ⟨g, 1, none⟩ = some b ∧ w.cell? ⟨g, 2, none⟩ = some c ∧ w.cell? ⟨g, 3, none⟩ = some d ∧ w.cell? ⟨g, 4, none⟩ = some e ∧ w.cell? ⟨g, 5, none⟩ = some f ∧ w.cell? ⟨g, 6, none⟩ = some x ∧ w.cell? ⟨g, 7, none⟩ = some y :=
  ⟨fun o => blk_frozen h o, (blk_cell h 0).trans rfl, (blk_cell h 1).trans rfl, (blk_cell h 2).trans rfl, (blk_cell h 3).trans rfl, (blk_cell h 4).trans rfl, (blk_cell h 5).trans rfl, (blk_cell h 6).trans rfl, (blk_cell h 7).trans rfl⟩
theorem cells12Q {w : World} {g : Nat} {v0 v1 v2 v3 v4 v5 v6 v7 v8 v9 v10 v11 : Value} {T : Nat} (h : w.heap[g]? = some (.cells #[v0, v1, v2, v3, v4, v5, v6, v7, v8, v9, v10, v11] T (0, 0))) : w.cell? ⟨g, 0, none⟩ = some v0 ∧ w.cell? ⟨g, 1, none⟩ = some v1 ∧ w.cell? ⟨g, 2, none⟩ = some v2 ∧ w.cell? ⟨g, 3, none⟩ = some v3 ∧ w.cell? ⟨g, 4, none⟩ = some v4 ∧ w.cell? ⟨g, 5, none⟩ = some v5 ∧ w.cell? ⟨g, 6, none⟩ = some v6 ∧ w.cell? ⟨g, 7, none⟩ = some v7 ∧ w.cell? ⟨g, 8, none⟩ = some v8 ∧ w.cell? ⟨g, 9, none⟩ = some v9 ∧ w.cell? ⟨g, 10, none⟩ = some v10 ∧ w.cell? ⟨g, 11, none⟩ = some v11 := ⟨(blk_cell h 0).trans rfl, (blk_cell h 1).trans rfl, (blk_cell h 2).trans rfl, (blk_cell h 3).trans rfl, (blk_cell h 4).trans rfl, (blk_cell h 5).trans rfl, (blk_cell h 6).trans rfl, (blk_cell h 7).trans rfl, (blk_cell h 8).trans rfl, (blk_cell h 9).trans rfl, (blk_cell h 10).trans rfl, (blk_cell h 11).trans rfl⟩
set_option maxHeartbeats 8000000 in
set_option maxRecDepth 100000 in
theorem muleteerref40_Dice_Step.calls (k : Nat) (g : Nat) (s0_0 : Int) (A1_0 : Option Addr) (c1_0 : Nat) (l1_0 : List Bool) (a1_1 : Int) (a1_2 : Int) (a1_3 : Int) (a1_4 : Int) (a1_5 : Int) (a1_6 : Int) (a1_7 : Int) (a1_8 : Int) (a1_9 : Int) (a1_10 : Int) (a1_11 : Int) (r1 : Int) (r2 : Int) (r3 : Int) (r4 : Int) (r5 : Int) (r6 : Int) (r7 : Int) (r8 : ByteArray) (r9 : Int) (w0 w : World) (hI : IsS32 w0 w g s0_0) (hB : Below w0.heap.size w0 w) (hr1_0 : Kd.C Kd.bool w A1_0 l1_0.length l1_0) (hc1_0 : l1_0.length ≤ c1_0) (hf1_0 : ∀ ad, A1_0 = some ad → 0 < l1_0.length → ad.block ≠ g) (h : muleteerref40_Dice_Step.f k s0_0 l1_0 a1_1 a1_2 a1_3 a1_4 a1_5 a1_6 a1_7 a1_8 a1_9 a1_10 a1_11 = some (r1, r2, r3, r4, r5, r6, r7, r8, r9)) :
    Calls Try.prog 19 #[.pointer (some ⟨g, 0, none⟩), .agg #[.slice A1_0 l1_0.length c1_0, .int .i64 a1_1, .int .i64 a1_2, .int .i64 a1_3, .int .i64 a1_4, .int .i64 a1_5, .int .i64 a1_6, .int .i64 a1_7, .int .i64 a1_8, .int .i64 a1_9, .int .i64 a1_10, .int .u64 a1_11]] w fun e w' => e = .returned (.agg #[.int .i64 r1, .int .i64 r2, .int .i64 r3, .int .i64 r4, .int .i64 r5, .int .u64 r6, .int .u64 r7, .string r8]) ∧ IsS32 w0 w' g r9 ∧ Below w0.heap.size w0 w' ∧ KeepBut w w' g none := by
  have hu25 := Try.underlying25
  have hu44 := Try.underlying44
  have HR := Lib.hid hr1_0
  have HC := Lib.hid hc1_0
  have HT := Lib.hid (StIQ.start (cfg := #[.slice A1_0 l1_0.length c1_0, .int .i64 a1_1, .int .i64 a1_2, .int .i64 a1_3, .int .i64 a1_4, .int .i64 a1_5, .int .i64 a1_6, .int .i64 a1_7, .int .i64 a1_8, .int .i64 a1_9, .int .i64 a1_10, .int .u64 a1_11]) hI hB)
  have g0 : g < w.heap.size := blk_lt hI.1
  clear hr1_0 hc1_0 hI hB
  have H : _ := h
  unfold muleteerref40_Dice_Step.f at H
  clear h
  replace H := Option.bind_eq_some_iff.mp H
  obtain ⟨⟨n, s1⟩, A50, H⟩ := H
  have A5 := Lib.hid A50
  have HH := Lib.hid H
  clear A50 H
  go_enter Try.func19, Try.ntmps19
  have T2 := Lib.hid (HT.out.below (below_alloc (Below.refl _ _) (.cells #[.int .i64 0, .int .i64 0, .int .i64 0, .int .i64 0, .int .i64 0, .int .u64 0, .int .u64 0, .string (⟨#[]⟩ : ByteArray)] 44)))
  have S2 := Lib.hid (blk_new ((w.alloc (.cells #[.slice A1_0 l1_0.length c1_0, .int .i64 a1_1, .int .i64 a1_2, .int .i64 a1_3, .int .i64 a1_4, .int .i64 a1_5, .int .i64 a1_6, .int .i64 a1_7, .int .i64 a1_8, .int .i64 a1_9, .int .i64 a1_10, .int .u64 a1_11] 25)).alloc (.cells #[.int .i64 0, .int .i64 0, .int .i64 0, .int .i64 0, .int .i64 0, .int .u64 0, .int .u64 0, .string (⟨#[]⟩ : ByteArray)] 44)) (.cells #[.int .i64 0, .int .i64 0, .int .i64 0, .int .i64 0, .int .i64 0, .int .u64 0, .int .u64 0, .string (⟨#[]⟩ : ByteArray)] 44))
  have hz2 : ((w.alloc (.cells #[.slice A1_0 l1_0.length c1_0, .int .i64 a1_1, .int .i64 a1_2, .int .i64 a1_3, .int .i64 a1_4, .int .i64 a1_5, .int .i64 a1_6, .int .i64 a1_7, .int .i64 a1_8, .int .i64 a1_9, .int .i64 a1_10, .int .u64 a1_11] 25)).alloc (.cells #[.int .i64 0, .int .i64 0, .int .i64 0, .int .i64 0, .int .i64 0, .int .u64 0, .int .u64 0, .string (⟨#[]⟩ : ByteArray)] 44)).heap.size = w.heap.size + 1 + 1 := by rw [World.size_alloc, World.size_alloc]
  rw [hz2] at S2
  clear hz2 HT
  obtain ⟨bs, hbs⟩ : ∃ bs, w.heap.size + 1 + 1 = bs := ⟨_, rfl⟩
  obtain ⟨br, hbr⟩ : ∃ br, w.heap.size + 1 = br := ⟨_, rfl⟩
  have n2 : g < bs := by omega
  have n3 : w.heap.size ≤ bs := by omega
  have n9 : bs ≠ w.heap.size := by omega
  have n8 : w.heap.size ≠ bs := by omega
  have n5 : bs ≠ br := by omega
  have n4 : br ≠ bs := by omega
  have hbs2 : br + 1 = bs := by omega
  go_wp2_with fail
  rw [hbs] at S2
  rw [hbr] at T2
  clear hbs hbr hbs2
  generalize ((w.alloc (.cells #[.slice A1_0 l1_0.length c1_0, .int .i64 a1_1, .int .i64 a1_2, .int .i64 a1_3, .int .i64 a1_4, .int .i64 a1_5, .int .i64 a1_6, .int .i64 a1_7, .int .i64 a1_8, .int .i64 a1_9, .int .i64 a1_10, .int .u64 a1_11] 25)).alloc (.cells #[.int .i64 0, .int .i64 0, .int .i64 0, .int .i64 0, .int .i64 0, .int .u64 0, .int .u64 0, .string (⟨#[]⟩ : ByteArray)] 44)).alloc (.cells #[.int .i64 0, .int .i64 0, .int .i64 0, .int .i64 0, .int .i64 0, .int .u64 0, .int .u64 0, .string (⟨#[]⟩ : ByteArray)] 44) = w2 at T2 S2 ⊢
  refine (muleteerref40_Dice_Below.calls g s0_0 40 n s1 w0 w2 T2.out.i T2.out.b A5.out).mono ?_
  rintro e w3 ⟨rfl, hi3, hb3, hk3⟩
  have T3 := Lib.hid (T2.out.turn hi3 hb3 hk3)
  have S3 := Lib.hid ((hk3.2 _ (blk_lt S2.out) (by omega) (by simp)).trans S2.out)
  clear hi3 hb3 hk3 T2 S2
  have H := HH.out
  clear HH
  by_cases c27 : n ≤ 27
  · rw [if_pos c27] at H
    replace H := Option.bind_eq_some_iff.mp H
    obtain ⟨⟨q, s2⟩, A70, H⟩ := H
    have A7 := Lib.hid A70
    clear A70
    simp only [Option.some.injEq, Prod.mk.injEq] at H
    obtain ⟨rfl, rfl, rfl, rfl, rfl, rfl, rfl, rfl, rfl⟩ := H
    obtain ⟨fxz, x0, x1, x2, x3, x4, x5, x6, x7⟩ := box8sQ S3.out
    go_wp2_with fail
    clear fxz x0 x1 x2 x3 x4 x5 x6 x7
    have S4 := Lib.hid (blk_put S3.out 0 (.int .i64 1) rfl)
    have T4 := Lib.hid (T3.out.set (bs := bs) (i := 0) (.int .i64 1) n9 n5 n2 n3)
    clear S3 T3
    generalize w3.setCell _ _ = w4 at S4 T4 ⊢
    have S4 : Hid (w4.heap[bs]? = some (.cells #[.int .i64 1, .int .i64 0, .int .i64 0, .int .i64 0, .int .i64 0, .int .u64 0, .int .u64 0, .string (⟨#[]⟩ : ByteArray)] 44 (0, 0))) := S4
    refine (muleteerref40_Dice_Below.calls g s1 16 q s2 w0 w4 T4.out.i T4.out.b A7.out).mono ?_
    rintro e w5 ⟨rfl, hi, hb, hk⟩
    have T5 := Lib.hid (T4.out.turn hi hb hk)
    have S5 := Lib.hid ((hk.2 _ (blk_lt S4.out) (by omega) (by simp)).trans S4.out)
    clear hi hb hk T4 S4
    obtain ⟨fxz, x0, x1, x2, x3, x4, x5, x6, x7⟩ := box8sQ S5.out
    go_upto_region 33 with (fail)
    clear fxz x0 x1 x2 x3 x4 x5 x6 x7
    have S6 := Lib.hid (blk_put S5.out 2 (.int .i64 q) rfl)
    have T6 := Lib.hid (T5.out.set (bs := bs) (i := 2) (.int .i64 q) n9 n5 n2 n3)
    clear S5 T5
    generalize w5.setCell _ _ = w6 at S6 T6 ⊢
    have S6 : Hid (w6.heap[bs]? = some (.cells #[.int .i64 1, .int .i64 0, .int .i64 q, .int .i64 0, .int .i64 0, .int .u64 0, .int .u64 0, .string (⟨#[]⟩ : ByteArray)] 44 (0, 0))) := S6
    obtain ⟨fxz, x0, x1, x2, x3, x4, x5, x6, x7⟩ := box8sQ S6.out
    obtain ⟨fyz, y0, y1, y2, y3, y4, y5, y6, y7⟩ := box8sQ T6.out.r
    go_wp2
    have P9 := put8Q T6.out.r (.int .i64 1) (.int .i64 0) (.int .i64 q) (.int .i64 0) (.int .i64 0) (.int .u64 0) (.int .u64 0) (.string (⟨#[]⟩ : ByteArray))
    have Q9 := T6.out.out8 (.int .i64 1) (.int .i64 0) (.int .i64 q) (.int .i64 0) (.int .i64 0) (.int .u64 0) (.int .u64 0) (.string (⟨#[]⟩ : ByteArray))
    refine bodyPost_ret (results_cell_row rfl _ _ br 44 #[.int .i64 1, .int .i64 0, .int .i64 q, .int .i64 0, .int .i64 0, .int .u64 0, .int .u64 0, .string (⟨#[]⟩ : ByteArray)] (0, 0) _ rfl P9 Try.underlying44 rfl (by kernel_rfl)) rfl ?_
    exact ⟨rfl, Q9⟩
  rw [if_neg c27] at H
  by_cases c32 : n ≤ 32
  · rw [if_pos c32] at H
    replace H := Option.bind_eq_some_iff.mp H
    obtain ⟨⟨q, s2⟩, A70, H⟩ := H
    have A7 := Lib.hid A70
    clear A70
    simp only [Option.some.injEq, Prod.mk.injEq] at H
    obtain ⟨rfl, rfl, rfl, rfl, rfl, rfl, rfl, rfl, rfl⟩ := H
    obtain ⟨fxz, x0, x1, x2, x3, x4, x5, x6, x7⟩ := box8sQ S3.out
    go_wp2_with fail
    clear fxz x0 x1 x2 x3 x4 x5 x6 x7
    have S4 := Lib.hid (blk_put S3.out 0 (.int .i64 2) rfl)
    have T4 := Lib.hid (T3.out.set (bs := bs) (i := 0) (.int .i64 2) n9 n5 n2 n3)
    clear S3 T3
    generalize w3.setCell _ _ = w4 at S4 T4 ⊢
    have S4 : Hid (w4.heap[bs]? = some (.cells #[.int .i64 2, .int .i64 0, .int .i64 0, .int .i64 0, .int .i64 0, .int .u64 0, .int .u64 0, .string (⟨#[]⟩ : ByteArray)] 44 (0, 0))) := S4
    refine (muleteerref40_Dice_Below.calls g s1 2 q s2 w0 w4 T4.out.i T4.out.b A7.out).mono ?_
    rintro e w5 ⟨rfl, hi, hb, hk⟩
    have T5 := Lib.hid (T4.out.turn hi hb hk)
    have S5 := Lib.hid ((hk.2 _ (blk_lt S4.out) (by omega) (by simp)).trans S4.out)
    clear hi hb hk T4 S4
    obtain ⟨fxz, x0, x1, x2, x3, x4, x5, x6, x7⟩ := box8sQ S5.out
    go_upto_region 33 with (fail)
    clear fxz x0 x1 x2 x3 x4 x5 x6 x7
    have S6 := Lib.hid (blk_put S5.out 1 (.int .i64 q) rfl)
    have T6 := Lib.hid (T5.out.set (bs := bs) (i := 1) (.int .i64 q) n9 n5 n2 n3)
    clear S5 T5
    generalize w5.setCell _ _ = w6 at S6 T6 ⊢
    have S6 : Hid (w6.heap[bs]? = some (.cells #[.int .i64 2, .int .i64 q, .int .i64 0, .int .i64 0, .int .i64 0, .int .u64 0, .int .u64 0, .string (⟨#[]⟩ : ByteArray)] 44 (0, 0))) := S6
    obtain ⟨fxz, x0, x1, x2, x3, x4, x5, x6, x7⟩ := box8sQ S6.out
    obtain ⟨fyz, y0, y1, y2, y3, y4, y5, y6, y7⟩ := box8sQ T6.out.r
    go_wp2
    have P9 := put8Q T6.out.r (.int .i64 2) (.int .i64 q) (.int .i64 0) (.int .i64 0) (.int .i64 0) (.int .u64 0) (.int .u64 0) (.string (⟨#[]⟩ : ByteArray))
    have Q9 := T6.out.out8 (.int .i64 2) (.int .i64 q) (.int .i64 0) (.int .i64 0) (.int .i64 0) (.int .u64 0) (.int .u64 0) (.string (⟨#[]⟩ : ByteArray))
    refine bodyPost_ret (results_cell_row rfl _ _ br 44 #[.int .i64 2, .int .i64 q, .int .i64 0, .int .i64 0, .int .i64 0, .int .u64 0, .int .u64 0, .string (⟨#[]⟩ : ByteArray)] (0, 0) _ rfl P9 Try.underlying44 rfl (by kernel_rfl)) rfl ?_
    exact ⟨rfl, Q9⟩
  rw [if_neg c32] at H
  by_cases c35 : n ≤ 35
  · rw [if_pos c35] at H
    replace H := Option.bind_eq_some_iff.mp H
    obtain ⟨⟨q, s2⟩, A70, H⟩ := H
    have A7 := Lib.hid A70
    clear A70
    replace H := Option.bind_eq_some_iff.mp H
    obtain ⟨⟨r, s3⟩, A80, H⟩ := H
    have A8 := Lib.hid A80
    clear A80
    replace H := Option.bind_eq_some_iff.mp H
    obtain ⟨⟨tt, s4⟩, A90, H⟩ := H
    have A9 := Lib.hid A90
    clear A90
    obtain ⟨fxz, x0, x1, x2, x3, x4, x5, x6, x7⟩ := box8sQ S3.out
    obtain ⟨k0, k1, k2, k3, k4, k5, k6, k7, k8, k9, k10, k11⟩ := cells12Q T3.out.c
    go_wp2_with fail
    clear fxz x0 x1 x2 x3 x4 x5 x6 x7
    clear k0 k1 k2 k3 k4 k5 k6 k7 k8 k9 k10 k11
    have S4 := Lib.hid (blk_put S3.out 0 (.int .i64 3) rfl)
    have T4 := Lib.hid (T3.out.set (bs := bs) (i := 0) (.int .i64 3) n9 n5 n2 n3)
    clear S3 T3
    generalize w3.setCell _ _ = w4 at S4 T4 ⊢
    have S4 : Hid (w4.heap[bs]? = some (.cells #[.int .i64 3, .int .i64 0, .int .i64 0, .int .i64 0, .int .i64 0, .int .u64 0, .int .u64 0, .string (⟨#[]⟩ : ByteArray)] 44 (0, 0))) := S4
    refine (muleteerref40_Dice_Below.calls g s1 (l1_0.length : Int) q s2 w0 w4 T4.out.i T4.out.b A7.out).mono ?_
    rintro e w5 ⟨rfl, hi, hb, hk⟩
    have T5 := Lib.hid (T4.out.turn hi hb hk)
    have S5 := Lib.hid ((hk.2 _ (blk_lt S4.out) (by omega) (by simp)).trans S4.out)
    clear hi hb hk T4 S4
    obtain ⟨fxz, x0, x1, x2, x3, x4, x5, x6, x7⟩ := box8sQ S5.out
    go_wp2_with fail
    clear fxz x0 x1 x2 x3 x4 x5 x6 x7
    have S6 := Lib.hid (blk_put S5.out 3 (.int .i64 q) rfl)
    have T6 := Lib.hid (T5.out.set (bs := bs) (i := 3) (.int .i64 q) n9 n5 n2 n3)
    clear S5 T5
    generalize w5.setCell _ _ = w6 at S6 T6 ⊢
    have S6 : Hid (w6.heap[bs]? = some (.cells #[.int .i64 3, .int .i64 0, .int .i64 0, .int .i64 q, .int .i64 0, .int .u64 0, .int .u64 0, .string (⟨#[]⟩ : ByteArray)] 44 (0, 0))) := S6
    refine (muleteerref40_Dice_Below.calls g s2 2 r s3 w0 w6 T6.out.i T6.out.b A8.out).mono ?_
    rintro e w7 ⟨rfl, hi, hb, hk⟩
    have T7 := Lib.hid (T6.out.turn hi hb hk)
    have S7 := Lib.hid ((hk.2 _ (blk_lt S6.out) (by omega) (by simp)).trans S6.out)
    clear hi hb hk T6 S6
    obtain ⟨fxz, x0, x1, x2, x3, x4, x5, x6, x7⟩ := box8sQ S7.out
    go_wp2_with fail
    clear fxz x0 x1 x2 x3 x4 x5 x6 x7
    have S8 := Lib.hid (blk_put S7.out 4 (.int .i64 r) rfl)
    have T8 := Lib.hid (T7.out.set (bs := bs) (i := 4) (.int .i64 r) n9 n5 n2 n3)
    clear S7 T7
    generalize w7.setCell _ _ = w8 at S8 T8 ⊢
    have S8 : Hid (w8.heap[bs]? = some (.cells #[.int .i64 3, .int .i64 0, .int .i64 0, .int .i64 q, .int .i64 r, .int .u64 0, .int .u64 0, .string (⟨#[]⟩ : ByteArray)] 44 (0, 0))) := S8
    refine (muleteerref40_Dice_Below.calls g s3 2 tt s4 w0 w8 T8.out.i T8.out.b A9.out).mono ?_
    rintro e w9 ⟨rfl, hi, hb, hk⟩
    have T9 := Lib.hid (T8.out.turn hi hb hk)
    have S9 := Lib.hid ((hk.2 _ (blk_lt S8.out) (by omega) (by simp)).trans S8.out)
    clear hi hb hk T8 S8
    by_cases c0 : tt = 0
    · rw [if_pos c0] at H
      have d0 : (tt != 0) = false := by simpa using c0
      have d1 : (tt == 0) = true := by simpa using c0
      clear c0
      cases k with
      | zero => simp [muleteerref40_Dice_Step.j0] at H
      | succ k =>
        simp only [muleteerref40_Dice_Step.j0] at H
        replace H := Option.bind_eq_some_iff.mp H
        obtain ⟨⟨lg, s6⟩, B40, H⟩ := H
        have B4 := Lib.hid B40
        clear B40
        have HH := Lib.hid H
        clear H
        obtain ⟨fxz, x0, x1, x2, x3, x4, x5, x6, x7⟩ := box8sQ S9.out
        go_wp2_with fail
        clear fxz x0 x1 x2 x3 x4 x5 x6 x7
        refine (muleteerref40_Dice_Below.calls g s4 4 lg s6 w0 w9 T9.out.i T9.out.b B4.out).mono ?_
        rintro e w10 ⟨rfl, hi, hb, hk⟩
        have T10 := Lib.hid (T9.out.turn hi hb hk)
        have S10 := Lib.hid ((hk.2 _ (blk_lt S9.out) (by omega) (by simp)).trans S9.out)
        clear hi hb hk T9 S9
        go_wp2_with fail
        go_loopg [8] k (fun kq v8 w' => ∃ (x8 : Int) (D : ByteArray), v8 = .int .i64 x8 ∧ Hid (muleteerref40_Dice_Step.l0 kq lg x8 s6 3 0 0 q r 0 0 D = some (r1, r2, r3, r4, r5, r6, r7, r8, r9)) ∧ Hid (w'.heap[bs]? = some (.cells #[.int .i64 3, .int .i64 0, .int .i64 0, .int .i64 q, .int .i64 r, .int .u64 0, .int .u64 0, .string D] 44 (0, 0))) ∧ Hid (StIQ w0 w w' g w.heap.size br #[.slice A1_0 l1_0.length c1_0, .int .i64 a1_1, .int .i64 a1_2, .int .i64 a1_3, .int .i64 a1_4, .int .i64 a1_5, .int .i64 a1_6, .int .i64 a1_7, .int .i64 a1_8, .int .i64 a1_9, .int .i64 a1_10, .int .u64 a1_11] s6))
        case atStart => exact ⟨0, _, rfl, HH, S10, T10⟩
        case round =>
          clear HH S10 T10
          obtain ⟨x8, D, rfl, HA, S11, T11⟩ := hrel
          cases gk with
          | zero => exact absurd HA.out (by simp [muleteerref40_Dice_Step.l0])
          | succ k2 =>
            have H := HA.out
            clear HA
            simp only [muleteerref40_Dice_Step.l0] at H
            by_cases c67 : x8 < lg
            · rw [if_pos c67] at H
              have e67 : decide (x8 < lg) = true := decide_eq_true c67
              clear c67
              by_cases c68 : D.size + 1 ≤ 9223372036854775807
              · rw [if_pos c68] at H
                have e68 : decide (D.size + 1 ≤ 9223372036854775807) = true := decide_eq_true c68
                have e69 : (9223372036854775807 < D.size + 1) = False := eq_false (Nat.not_lt.2 c68)
                have e70 := eq_true c68
                have HH := Lib.hid H
                clear H
                obtain ⟨fxz, x0, x1, x2, x3, x4, x5, x6, x7⟩ := box8sQ S11.out
                go_wp2
                clear fxz x0 x1 x2 x3 x4 x5 x6 x7
                have S12 := Lib.hid (blk_put S11.out 7 (.string (D ++ (⟨#[97]⟩ : ByteArray))) rfl)
                have T12 := Lib.hid (T11.out.set (bs := bs) (i := 7) (.string (D ++ (⟨#[97]⟩ : ByteArray))) n9 n5 n2 n3)
                clear S11 T11
                go_roundg k2
                case measure => exact Nat.lt_succ_self _
                case rel => exact ⟨_, _, rfl, HH, S12, T12⟩
              · rw [if_neg c68] at H
                exact absurd H (by simp)
            · rw [if_neg c67] at H
              have e67 : decide (x8 < lg) = false := decide_eq_false c67
              clear c67
              simp only [Option.some.injEq, Prod.mk.injEq] at H
              obtain ⟨rfl, rfl, rfl, rfl, rfl, rfl, rfl, rfl, rfl⟩ := H
              obtain ⟨fxz, x0, x1, x2, x3, x4, x5, x6, x7⟩ := box8sQ S11.out
              go_upto_region 33 with (fail)
              clear fxz x0 x1 x2 x3 x4 x5 x6 x7
              obtain ⟨fxz, x0, x1, x2, x3, x4, x5, x6, x7⟩ := box8sQ S11.out
              obtain ⟨fyz, y0, y1, y2, y3, y4, y5, y6, y7⟩ := box8sQ T11.out.r
              go_wp2
              have P9 := put8Q T11.out.r (.int .i64 3) (.int .i64 0) (.int .i64 0) (.int .i64 q) (.int .i64 r) (.int .u64 0) (.int .u64 0) (.string D)
              have Q9 := T11.out.out8 (.int .i64 3) (.int .i64 0) (.int .i64 0) (.int .i64 q) (.int .i64 r) (.int .u64 0) (.int .u64 0) (.string D)
              refine bodyPost_ret (results_cell_row rfl _ _ br 44 #[.int .i64 3, .int .i64 0, .int .i64 0, .int .i64 q, .int .i64 r, .int .u64 0, .int .u64 0, .string D] (0, 0) _ rfl P9 Try.underlying44 rfl (by kernel_rfl)) rfl ?_
              exact ⟨rfl, Q9⟩
    · rw [if_neg c0] at H
      have d0 : (tt != 0) = true := by simpa using c0
      have d1 : (tt == 0) = false := by simpa using c0
      clear c0
      replace H := Option.bind_eq_some_iff.mp H
      obtain ⟨⟨u, s5⟩, B00, H⟩ := H
      have B0 := Lib.hid B00
      clear B00
      obtain ⟨fxz, x0, x1, x2, x3, x4, x5, x6, x7⟩ := box8sQ S9.out
      go_wp2_with fail
      clear fxz x0 x1 x2 x3 x4 x5 x6 x7
      refine (muleteerref40_Dice_Below.calls g s4 20 u s5 w0 w9 T9.out.i T9.out.b B0.out).mono ?_
      rintro e w10 ⟨rfl, hi, hb, hk⟩
      have T10 := Lib.hid (T9.out.turn hi hb hk)
      have S10 := Lib.hid ((hk.2 _ (blk_lt S9.out) (by omega) (by simp)).trans S9.out)
      clear hi hb hk T9 S9
      cases k with
      | zero => simp [muleteerref40_Dice_Step.j0] at H
      | succ k =>
        simp only [muleteerref40_Dice_Step.j0] at H
        replace H := Option.bind_eq_some_iff.mp H
        obtain ⟨⟨lg, s6⟩, B40, H⟩ := H
        have B4 := Lib.hid B40
        clear B40
        have HH := Lib.hid H
        clear H
        obtain ⟨fxz, x0, x1, x2, x3, x4, x5, x6, x7⟩ := box8sQ S10.out
        go_wp2_with fail
        clear fxz x0 x1 x2 x3 x4 x5 x6 x7
        have S11 := Lib.hid (blk_put S10.out 6 (.int .u64 (IntKind.u64.wrap (wrap64 (1 + u)))) rfl)
        have T11 := Lib.hid (T10.out.set (bs := bs) (i := 6) (.int .u64 (IntKind.u64.wrap (wrap64 (1 + u)))) n9 n5 n2 n3)
        clear S10 T10
        generalize w10.setCell _ _ = w11 at S11 T11 ⊢
        have S11 : Hid (w11.heap[bs]? = some (.cells #[.int .i64 3, .int .i64 0, .int .i64 0, .int .i64 q, .int .i64 r, .int .u64 0, .int .u64 (IntKind.u64.wrap (wrap64 (1 + u))), .string (⟨#[]⟩ : ByteArray)] 44 (0, 0))) := S11
        refine (muleteerref40_Dice_Below.calls g s5 4 lg s6 w0 w11 T11.out.i T11.out.b B4.out).mono ?_
        rintro e w12 ⟨rfl, hi, hb, hk⟩
        have T12 := Lib.hid (T11.out.turn hi hb hk)
        have S12 := Lib.hid ((hk.2 _ (blk_lt S11.out) (by omega) (by simp)).trans S11.out)
        clear hi hb hk T11 S11
        go_wp2_with fail
        go_loopg [8] k (fun kq v8 w' => ∃ (x8 : Int) (D : ByteArray), v8 = .int .i64 x8 ∧ Hid (muleteerref40_Dice_Step.l0 kq lg x8 s6 3 0 0 q r 0 ((IntKind.u64.wrap (wrap64 (1 + u)))) D = some (r1, r2, r3, r4, r5, r6, r7, r8, r9)) ∧ Hid (w'.heap[bs]? = some (.cells #[.int .i64 3, .int .i64 0, .int .i64 0, .int .i64 q, .int .i64 r, .int .u64 0, .int .u64 (IntKind.u64.wrap (wrap64 (1 + u))), .string D] 44 (0, 0))) ∧ Hid (StIQ w0 w w' g w.heap.size br #[.slice A1_0 l1_0.length c1_0, .int .i64 a1_1, .int .i64 a1_2, .int .i64 a1_3, .int .i64 a1_4, .int .i64 a1_5, .int .i64 a1_6, .int .i64 a1_7, .int .i64 a1_8, .int .i64 a1_9, .int .i64 a1_10, .int .u64 a1_11] s6))
        case atStart => exact ⟨0, _, rfl, HH, S12, T12⟩
        case round =>
          clear HH S12 T12
          obtain ⟨x8, D, rfl, HA, S13, T13⟩ := hrel
          cases gk with
          | zero => exact absurd HA.out (by simp [muleteerref40_Dice_Step.l0])
          | succ k2 =>
            have H := HA.out
            clear HA
            simp only [muleteerref40_Dice_Step.l0] at H
            by_cases c67 : x8 < lg
            · rw [if_pos c67] at H
              have e67 : decide (x8 < lg) = true := decide_eq_true c67
              clear c67
              by_cases c68 : D.size + 1 ≤ 9223372036854775807
              · rw [if_pos c68] at H
                have e68 : decide (D.size + 1 ≤ 9223372036854775807) = true := decide_eq_true c68
                have e69 : (9223372036854775807 < D.size + 1) = False := eq_false (Nat.not_lt.2 c68)
                have e70 := eq_true c68
                have HH := Lib.hid H
                clear H
                obtain ⟨fxz, x0, x1, x2, x3, x4, x5, x6, x7⟩ := box8sQ S13.out
                go_wp2
                clear fxz x0 x1 x2 x3 x4 x5 x6 x7
                have S14 := Lib.hid (blk_put S13.out 7 (.string (D ++ (⟨#[97]⟩ : ByteArray))) rfl)
                have T14 := Lib.hid (T13.out.set (bs := bs) (i := 7) (.string (D ++ (⟨#[97]⟩ : ByteArray))) n9 n5 n2 n3)
                clear S13 T13
                go_roundg k2
                case measure => exact Nat.lt_succ_self _
                case rel => exact ⟨_, _, rfl, HH, S14, T14⟩
              · rw [if_neg c68] at H
                exact absurd H (by simp)
            · rw [if_neg c67] at H
              have e67 : decide (x8 < lg) = false := decide_eq_false c67
              clear c67
              simp only [Option.some.injEq, Prod.mk.injEq] at H
              obtain ⟨rfl, rfl, rfl, rfl, rfl, rfl, rfl, rfl, rfl⟩ := H
              obtain ⟨fxz, x0, x1, x2, x3, x4, x5, x6, x7⟩ := box8sQ S13.out
              go_upto_region 33 with (fail)
              clear fxz x0 x1 x2 x3 x4 x5 x6 x7
              obtain ⟨fxz, x0, x1, x2, x3, x4, x5, x6, x7⟩ := box8sQ S13.out
              obtain ⟨fyz, y0, y1, y2, y3, y4, y5, y6, y7⟩ := box8sQ T13.out.r
              go_wp2
              have P9 := put8Q T13.out.r (.int .i64 3) (.int .i64 0) (.int .i64 0) (.int .i64 q) (.int .i64 r) (.int .u64 0) (.int .u64 (IntKind.u64.wrap (wrap64 (1 + u)))) (.string D)
              have Q9 := T13.out.out8 (.int .i64 3) (.int .i64 0) (.int .i64 0) (.int .i64 q) (.int .i64 r) (.int .u64 0) (.int .u64 (IntKind.u64.wrap (wrap64 (1 + u)))) (.string D)
              refine bodyPost_ret (results_cell_row rfl _ _ br 44 #[.int .i64 3, .int .i64 0, .int .i64 0, .int .i64 q, .int .i64 r, .int .u64 0, .int .u64 (IntKind.u64.wrap (wrap64 (1 + u))), .string D] (0, 0) _ rfl P9 Try.underlying44 rfl (by kernel_rfl)) rfl ?_
              exact ⟨rfl, Q9⟩
  rw [if_neg c35] at H
  by_cases c36 : n = 36
  · rw [if_pos c36] at H
    have dc36 : (n == 36) = true := by simpa using c36
    clear c36
    replace H := Option.bind_eq_some_iff.mp H
    obtain ⟨⟨q, s2⟩, A70, H⟩ := H
    have A7 := Lib.hid A70
    clear A70
    simp only [Option.some.injEq, Prod.mk.injEq] at H
    obtain ⟨rfl, rfl, rfl, rfl, rfl, rfl, rfl, rfl, rfl⟩ := H
    obtain ⟨fxz, x0, x1, x2, x3, x4, x5, x6, x7⟩ := box8sQ S3.out
    obtain ⟨k0, k1, k2, k3, k4, k5, k6, k7, k8, k9, k10, k11⟩ := cells12Q T3.out.c
    go_wp2_with fail
    clear fxz x0 x1 x2 x3 x4 x5 x6 x7
    clear k0 k1 k2 k3 k4 k5 k6 k7 k8 k9 k10 k11
    have S4 := Lib.hid (blk_put S3.out 0 (.int .i64 5) rfl)
    have T4 := Lib.hid (T3.out.set (bs := bs) (i := 0) (.int .i64 5) n9 n5 n2 n3)
    clear S3 T3
    generalize w3.setCell _ _ = w4 at S4 T4 ⊢
    have S4 : Hid (w4.heap[bs]? = some (.cells #[.int .i64 5, .int .i64 0, .int .i64 0, .int .i64 0, .int .i64 0, .int .u64 0, .int .u64 0, .string (⟨#[]⟩ : ByteArray)] 44 (0, 0))) := S4
    refine (muleteerref40_Dice_Below.calls g s1 (wrap64 (2 * (l1_0.length : Int))) q s2 w0 w4 T4.out.i T4.out.b A7.out).mono ?_
    rintro e w5 ⟨rfl, hi, hb, hk⟩
    have T5 := Lib.hid (T4.out.turn hi hb hk)
    have S5 := Lib.hid ((hk.2 _ (blk_lt S4.out) (by omega) (by simp)).trans S4.out)
    clear hi hb hk T4 S4
    obtain ⟨fxz, x0, x1, x2, x3, x4, x5, x6, x7⟩ := box8sQ S5.out
    go_upto_region 33 with (fail)
    clear fxz x0 x1 x2 x3 x4 x5 x6 x7
    have S6 := Lib.hid (blk_put S5.out 2 (.int .i64 q) rfl)
    have T6 := Lib.hid (T5.out.set (bs := bs) (i := 2) (.int .i64 q) n9 n5 n2 n3)
    clear S5 T5
    generalize w5.setCell _ _ = w6 at S6 T6 ⊢
    have S6 : Hid (w6.heap[bs]? = some (.cells #[.int .i64 5, .int .i64 0, .int .i64 q, .int .i64 0, .int .i64 0, .int .u64 0, .int .u64 0, .string (⟨#[]⟩ : ByteArray)] 44 (0, 0))) := S6
    obtain ⟨fxz, x0, x1, x2, x3, x4, x5, x6, x7⟩ := box8sQ S6.out
    obtain ⟨fyz, y0, y1, y2, y3, y4, y5, y6, y7⟩ := box8sQ T6.out.r
    go_wp2
    have P9 := put8Q T6.out.r (.int .i64 5) (.int .i64 0) (.int .i64 q) (.int .i64 0) (.int .i64 0) (.int .u64 0) (.int .u64 0) (.string (⟨#[]⟩ : ByteArray))
    have Q9 := T6.out.out8 (.int .i64 5) (.int .i64 0) (.int .i64 q) (.int .i64 0) (.int .i64 0) (.int .u64 0) (.int .u64 0) (.string (⟨#[]⟩ : ByteArray))
    refine bodyPost_ret (results_cell_row rfl _ _ br 44 #[.int .i64 5, .int .i64 0, .int .i64 q, .int .i64 0, .int .i64 0, .int .u64 0, .int .u64 0, .string (⟨#[]⟩ : ByteArray)] (0, 0) _ rfl P9 Try.underlying44 rfl (by kernel_rfl)) rfl ?_
    exact ⟨rfl, Q9⟩
  rw [if_neg c36] at H
  have dc36 : (n == 36) = false := by simpa using c36
  clear c36
  by_cases c37 : n = 37
  · rw [if_pos c37] at H
    have dc37 : (n == 37) = true := by simpa using c37
    clear c37
    replace H := Option.bind_eq_some_iff.mp H
    obtain ⟨⟨q, s2⟩, A70, H⟩ := H
    have A7 := Lib.hid A70
    clear A70
    replace H := Option.bind_eq_some_iff.mp H
    obtain ⟨⟨r, s3⟩, A80, H⟩ := H
    have A8 := Lib.hid A80
    clear A80
    simp only [Option.some.injEq, Prod.mk.injEq] at H
    obtain ⟨rfl, rfl, rfl, rfl, rfl, rfl, rfl, rfl, rfl⟩ := H
    obtain ⟨fxz, x0, x1, x2, x3, x4, x5, x6, x7⟩ := box8sQ S3.out
    go_wp2_with fail
    clear fxz x0 x1 x2 x3 x4 x5 x6 x7
    have S4 := Lib.hid (blk_put S3.out 0 (.int .i64 6) rfl)
    have T4 := Lib.hid (T3.out.set (bs := bs) (i := 0) (.int .i64 6) n9 n5 n2 n3)
    clear S3 T3
    generalize w3.setCell _ _ = w4 at S4 T4 ⊢
    have S4 : Hid (w4.heap[bs]? = some (.cells #[.int .i64 6, .int .i64 0, .int .i64 0, .int .i64 0, .int .i64 0, .int .u64 0, .int .u64 0, .string (⟨#[]⟩ : ByteArray)] 44 (0, 0))) := S4
    refine (muleteerref40_Dice_Below.calls g s1 2 q s2 w0 w4 T4.out.i T4.out.b A7.out).mono ?_
    rintro e w5 ⟨rfl, hi, hb, hk⟩
    have T5 := Lib.hid (T4.out.turn hi hb hk)
    have S5 := Lib.hid ((hk.2 _ (blk_lt S4.out) (by omega) (by simp)).trans S4.out)
    clear hi hb hk T4 S4
    obtain ⟨fxz, x0, x1, x2, x3, x4, x5, x6, x7⟩ := box8sQ S5.out
    obtain ⟨k0, k1, k2, k3, k4, k5, k6, k7, k8, k9, k10, k11⟩ := cells12Q T5.out.c
    go_wp2_with fail
    clear fxz x0 x1 x2 x3 x4 x5 x6 x7
    clear k0 k1 k2 k3 k4 k5 k6 k7 k8 k9 k10 k11
    have S6 := Lib.hid (blk_put S5.out 1 (.int .i64 q) rfl)
    have T6 := Lib.hid (T5.out.set (bs := bs) (i := 1) (.int .i64 q) n9 n5 n2 n3)
    clear S5 T5
    generalize w5.setCell _ _ = w6 at S6 T6 ⊢
    have S6 : Hid (w6.heap[bs]? = some (.cells #[.int .i64 6, .int .i64 q, .int .i64 0, .int .i64 0, .int .i64 0, .int .u64 0, .int .u64 0, .string (⟨#[]⟩ : ByteArray)] 44 (0, 0))) := S6
    refine (muleteerref40_Dice_Below.calls g s2 a1_1 r s3 w0 w6 T6.out.i T6.out.b A8.out).mono ?_
    rintro e w7 ⟨rfl, hi, hb, hk⟩
    have T7 := Lib.hid (T6.out.turn hi hb hk)
    have S7 := Lib.hid ((hk.2 _ (blk_lt S6.out) (by omega) (by simp)).trans S6.out)
    clear hi hb hk T6 S6
    obtain ⟨fxz, x0, x1, x2, x3, x4, x5, x6, x7⟩ := box8sQ S7.out
    go_upto_region 33 with (fail)
    clear fxz x0 x1 x2 x3 x4 x5 x6 x7
    have S8 := Lib.hid (blk_put S7.out 2 (.int .i64 (wrap64 (1 + r))) rfl)
    have T8 := Lib.hid (T7.out.set (bs := bs) (i := 2) (.int .i64 (wrap64 (1 + r))) n9 n5 n2 n3)
    clear S7 T7
    generalize w7.setCell _ _ = w8 at S8 T8 ⊢
    have S8 : Hid (w8.heap[bs]? = some (.cells #[.int .i64 6, .int .i64 q, .int .i64 (wrap64 (1 + r)), .int .i64 0, .int .i64 0, .int .u64 0, .int .u64 0, .string (⟨#[]⟩ : ByteArray)] 44 (0, 0))) := S8
    obtain ⟨fxz, x0, x1, x2, x3, x4, x5, x6, x7⟩ := box8sQ S8.out
    obtain ⟨fyz, y0, y1, y2, y3, y4, y5, y6, y7⟩ := box8sQ T8.out.r
    go_wp2
    have P9 := put8Q T8.out.r (.int .i64 6) (.int .i64 q) (.int .i64 (wrap64 (1 + r))) (.int .i64 0) (.int .i64 0) (.int .u64 0) (.int .u64 0) (.string (⟨#[]⟩ : ByteArray))
    have Q9 := T8.out.out8 (.int .i64 6) (.int .i64 q) (.int .i64 (wrap64 (1 + r))) (.int .i64 0) (.int .i64 0) (.int .u64 0) (.int .u64 0) (.string (⟨#[]⟩ : ByteArray))
    refine bodyPost_ret (results_cell_row rfl _ _ br 44 #[.int .i64 6, .int .i64 q, .int .i64 (wrap64 (1 + r)), .int .i64 0, .int .i64 0, .int .u64 0, .int .u64 0, .string (⟨#[]⟩ : ByteArray)] (0, 0) _ rfl P9 Try.underlying44 rfl (by kernel_rfl)) rfl ?_
    exact ⟨rfl, Q9⟩
  rw [if_neg c37] at H
  have dc37 : (n == 37) = false := by simpa using c37
  clear c37
  by_cases c38 : n = 38
  · rw [if_pos c38] at H
    have dc38 : (n == 38) = true := by simpa using c38
    clear c38
    replace H := Option.bind_eq_some_iff.mp H
    obtain ⟨⟨q, s2⟩, A70, H⟩ := H
    have A7 := Lib.hid A70
    clear A70
    simp only [Option.some.injEq, Prod.mk.injEq] at H
    obtain ⟨rfl, rfl, rfl, rfl, rfl, rfl, rfl, rfl, rfl⟩ := H
    obtain ⟨fxz, x0, x1, x2, x3, x4, x5, x6, x7⟩ := box8sQ S3.out
    go_wp2_with fail
    clear fxz x0 x1 x2 x3 x4 x5 x6 x7
    have S4 := Lib.hid (blk_put S3.out 0 (.int .i64 4) rfl)
    have T4 := Lib.hid (T3.out.set (bs := bs) (i := 0) (.int .i64 4) n9 n5 n2 n3)
    clear S3 T3
    generalize w3.setCell _ _ = w4 at S4 T4 ⊢
    have S4 : Hid (w4.heap[bs]? = some (.cells #[.int .i64 4, .int .i64 0, .int .i64 0, .int .i64 0, .int .i64 0, .int .u64 0, .int .u64 0, .string (⟨#[]⟩ : ByteArray)] 44 (0, 0))) := S4
    refine (muleteerref40_Dice_Below.calls g s1 2 q s2 w0 w4 T4.out.i T4.out.b A7.out).mono ?_
    rintro e w5 ⟨rfl, hi, hb, hk⟩
    have T5 := Lib.hid (T4.out.turn hi hb hk)
    have S5 := Lib.hid ((hk.2 _ (blk_lt S4.out) (by omega) (by simp)).trans S4.out)
    clear hi hb hk T4 S4
    obtain ⟨fxz, x0, x1, x2, x3, x4, x5, x6, x7⟩ := box8sQ S5.out
    go_upto_region 33 with (fail)
    clear fxz x0 x1 x2 x3 x4 x5 x6 x7
    have S6 := Lib.hid (blk_put S5.out 1 (.int .i64 q) rfl)
    have T6 := Lib.hid (T5.out.set (bs := bs) (i := 1) (.int .i64 q) n9 n5 n2 n3)
    clear S5 T5
    generalize w5.setCell _ _ = w6 at S6 T6 ⊢
    have S6 : Hid (w6.heap[bs]? = some (.cells #[.int .i64 4, .int .i64 q, .int .i64 0, .int .i64 0, .int .i64 0, .int .u64 0, .int .u64 0, .string (⟨#[]⟩ : ByteArray)] 44 (0, 0))) := S6
    obtain ⟨fxz, x0, x1, x2, x3, x4, x5, x6, x7⟩ := box8sQ S6.out
    obtain ⟨fyz, y0, y1, y2, y3, y4, y5, y6, y7⟩ := box8sQ T6.out.r
    go_wp2
    have P9 := put8Q T6.out.r (.int .i64 4) (.int .i64 q) (.int .i64 0) (.int .i64 0) (.int .i64 0) (.int .u64 0) (.int .u64 0) (.string (⟨#[]⟩ : ByteArray))
    have Q9 := T6.out.out8 (.int .i64 4) (.int .i64 q) (.int .i64 0) (.int .i64 0) (.int .i64 0) (.int .u64 0) (.int .u64 0) (.string (⟨#[]⟩ : ByteArray))
    refine bodyPost_ret (results_cell_row rfl _ _ br 44 #[.int .i64 4, .int .i64 q, .int .i64 0, .int .i64 0, .int .i64 0, .int .u64 0, .int .u64 0, .string (⟨#[]⟩ : ByteArray)] (0, 0) _ rfl P9 Try.underlying44 rfl (by kernel_rfl)) rfl ?_
    exact ⟨rfl, Q9⟩
  rw [if_neg c38] at H
  have dc38 : (n == 38) = false := by simpa using c38
  clear c38
  replace H := Option.bind_eq_some_iff.mp H
  obtain ⟨⟨q, s2⟩, A70, H⟩ := H
  have A7 := Lib.hid A70
  clear A70
  obtain ⟨fxz, x0, x1, x2, x3, x4, x5, x6, x7⟩ := box8sQ S3.out
  go_wp2_with fail
  clear fxz x0 x1 x2 x3 x4 x5 x6 x7
  refine (muleteerref40_Dice_Below.calls g s1 4 q s2 w0 w3 T3.out.i T3.out.b A7.out).mono ?_
  rintro e w4 ⟨rfl, hi, hb, hk⟩
  have T4 := Lib.hid (T3.out.turn hi hb hk)
  have S4 := Lib.hid ((hk.2 _ (blk_lt S3.out) (by omega) (by simp)).trans S3.out)
  clear hi hb hk T3 S3
  by_cases c0 : q = 0
  · rw [if_pos c0] at H
    simp only [Option.some.injEq, Prod.mk.injEq] at H
    obtain ⟨rfl, rfl, rfl, rfl, rfl, rfl, rfl, rfl, rfl⟩ := H
    have d0 : (q == 0) = true := by simpa using c0
    clear c0
    obtain ⟨fxz, x0, x1, x2, x3, x4, x5, x6, x7⟩ := box8sQ S4.out
    go_upto_region 33 with (fail)
    clear fxz x0 x1 x2 x3 x4 x5 x6 x7
    have S5 := Lib.hid (blk_put S4.out 0 (.int .i64 7) rfl)
    have T5 := Lib.hid (T4.out.set (bs := bs) (i := 0) (.int .i64 7) n9 n5 n2 n3)
    clear S4 T4
    generalize w4.setCell _ _ = w5 at S5 T5 ⊢
    have S5 : Hid (w5.heap[bs]? = some (.cells #[.int .i64 7, .int .i64 0, .int .i64 0, .int .i64 0, .int .i64 0, .int .u64 0, .int .u64 0, .string (⟨#[]⟩ : ByteArray)] 44 (0, 0))) := S5
    obtain ⟨fxz, x0, x1, x2, x3, x4, x5, x6, x7⟩ := box8sQ S5.out
    obtain ⟨fyz, y0, y1, y2, y3, y4, y5, y6, y7⟩ := box8sQ T5.out.r
    go_wp2
    have P9 := put8Q T5.out.r (.int .i64 7) (.int .i64 0) (.int .i64 0) (.int .i64 0) (.int .i64 0) (.int .u64 0) (.int .u64 0) (.string (⟨#[]⟩ : ByteArray))
    have Q9 := T5.out.out8 (.int .i64 7) (.int .i64 0) (.int .i64 0) (.int .i64 0) (.int .i64 0) (.int .u64 0) (.int .u64 0) (.string (⟨#[]⟩ : ByteArray))
    refine bodyPost_ret (results_cell_row rfl _ _ br 44 #[.int .i64 7, .int .i64 0, .int .i64 0, .int .i64 0, .int .i64 0, .int .u64 0, .int .u64 0, .string (⟨#[]⟩ : ByteArray)] (0, 0) _ rfl P9 Try.underlying44 rfl (by kernel_rfl)) rfl ?_
    exact ⟨rfl, Q9⟩
  · rw [if_neg c0] at H
    simp only [Option.some.injEq, Prod.mk.injEq] at H
    obtain ⟨rfl, rfl, rfl, rfl, rfl, rfl, rfl, rfl, rfl⟩ := H
    have d0 : (q == 0) = false := by simpa using c0
    clear c0
    obtain ⟨fxz, x0, x1, x2, x3, x4, x5, x6, x7⟩ := box8sQ S4.out
    go_upto_region 33 with (fail)
    clear fxz x0 x1 x2 x3 x4 x5 x6 x7
    have S5 := Lib.hid (blk_put S4.out 0 (.int .i64 8) rfl)
    have T5 := Lib.hid (T4.out.set (bs := bs) (i := 0) (.int .i64 8) n9 n5 n2 n3)
    clear S4 T4
    generalize w4.setCell _ _ = w5 at S5 T5 ⊢
    have S5 : Hid (w5.heap[bs]? = some (.cells #[.int .i64 8, .int .i64 0, .int .i64 0, .int .i64 0, .int .i64 0, .int .u64 0, .int .u64 0, .string (⟨#[]⟩ : ByteArray)] 44 (0, 0))) := S5
    obtain ⟨fxz, x0, x1, x2, x3, x4, x5, x6, x7⟩ := box8sQ S5.out
    obtain ⟨fyz, y0, y1, y2, y3, y4, y5, y6, y7⟩ := box8sQ T5.out.r
    go_wp2
    have P9 := put8Q T5.out.r (.int .i64 8) (.int .i64 0) (.int .i64 0) (.int .i64 0) (.int .i64 0) (.int .u64 0) (.int .u64 0) (.string (⟨#[]⟩ : ByteArray))
    have Q9 := T5.out.out8 (.int .i64 8) (.int .i64 0) (.int .i64 0) (.int .i64 0) (.int .i64 0) (.int .u64 0) (.int .u64 0) (.string (⟨#[]⟩ : ByteArray))
    refine bodyPost_ret (results_cell_row rfl _ _ br 44 #[.int .i64 8, .int .i64 0, .int .i64 0, .int .i64 0, .int .i64 0, .int .u64 0, .int .u64 0, .string (⟨#[]⟩ : ByteArray)] (0, 0) _ rfl P9 Try.underlying44 rfl (by kernel_rfl)) rfl ?_
    exact ⟨rfl, Q9⟩
end Go.Proofs.Ytlfminnncfgbfaa.PDiceScripts
