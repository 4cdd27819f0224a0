/- conf.Check: which field of a config isn't right, if any: for every config. -/
import Derived.Test.YtlfminnncfgbfaaHand0
namespace Go.Proofs.Ytlfminnncfgbfaa.Hand
open Go.RowKit Go.Proofs.YtlfminnncfgbfaaW.PrintWords Go.Proofs.YtlfminnncfgbfaaW.PrintLast
set_option linter.unusedVariables false
set_option linter.unusedSimpArgs false

/-- Does a number lie between two others? -/
def win (n a b : Int) : Bool := decide (a ≤ n ∧ n ≤ b)
theorem within_any (n a b : Int) (w : World) : Calls Try.prog 34 #[.int .i64 n, .int .i64 a, .int .i64 b] w fun e w' => e = .returned (.bool (win n a b)) ∧ w = w' := by
  by_cases h1 : a ≤ n
  · by_cases h2 : n ≤ b
    · have e : win n a b = true := by simp [win, h1, h2]
      go_enter Try.func34, Try.ntmps34
      go_wp2
      go_ret
      exact ⟨by first | rfl | (rw [e]; rfl), rfl⟩
    · have e : win n a b = false := by simp [win, h1, h2]
      go_enter Try.func34, Try.ntmps34
      go_wp2
      go_ret
      exact ⟨by first | rfl | (rw [e]; rfl), rfl⟩
  · have e : win n a b = false := by simp [win, h1]
    go_enter Try.func34, Try.ntmps34
    go_wp2
    go_ret
    exact ⟨by first | rfl | (rw [e]; rfl), rfl⟩
theorem rule1 (A : Option Addr) (n c : Nat) (v1 v2 v3 v4 v5 v6 v7 v8 v9 v10 v11 : Value) (w : World) (hn : n ≤ 9223372036854775807) :
    Calls Try.prog 33 #[.agg #[.slice A n c, v1, v2, v3, v4, v5, v6, v7, v8, v9, v10, v11]] w fun e w' => e = .returned (.bool (win (n : Int) 1 4)) ∧ Below w.heap.size w w' := by
  go_enter Try.func33, Try.ntmps33
  go_wp2_with (first | (go_at_call 34; refine (within_any _ _ _ _).mono ?_; rintro e w' ⟨rfl, rfl⟩))
  go_ret
  exact ⟨rfl, (Below.refl _ _).alloc (Nat.le_refl _) _⟩
theorem rule2 (v0 v2 v3 v4 v5 v6 v7 v8 v9 v10 v11 : Value) (x : Int) (w : World) :
    Calls Try.prog 35 #[.agg #[v0, .int .i64 x, v2, v3, v4, v5, v6, v7, v8, v9, v10, v11]] w fun e w' => e = .returned (.bool (win x 1 4)) ∧ Below w.heap.size w w' := by
  go_enter Try.func35, Try.ntmps35
  go_wp2_with (first | (go_at_call 34; refine (within_any _ _ _ _).mono ?_; rintro e w' ⟨rfl, rfl⟩))
  go_ret
  exact ⟨rfl, (Below.refl _ _).alloc (Nat.le_refl _) _⟩
theorem rule3 (v0 v1 v3 v4 v5 v6 v7 v8 v9 v10 v11 : Value) (x : Int) (w : World) :
    Calls Try.prog 36 #[.agg #[v0, v1, .int .i64 x, v3, v4, v5, v6, v7, v8, v9, v10, v11]] w fun e w' => e = .returned (.bool (win x 1 8)) ∧ Below w.heap.size w w' := by
  go_enter Try.func36, Try.ntmps36
  go_wp2_with (first | (go_at_call 34; refine (within_any _ _ _ _).mono ?_; rintro e w' ⟨rfl, rfl⟩))
  go_ret
  exact ⟨rfl, (Below.refl _ _).alloc (Nat.le_refl _) _⟩
theorem rule4 (v0 v1 v2 v4 v5 v6 v7 v8 v9 v10 v11 : Value) (x : Int) (w : World) :
    Calls Try.prog 37 #[.agg #[v0, v1, v2, .int .i64 x, v4, v5, v6, v7, v8, v9, v10, v11]] w fun e w' => e = .returned (.bool (win x 1 64)) ∧ Below w.heap.size w w' := by
  go_enter Try.func37, Try.ntmps37
  go_wp2_with (first | (go_at_call 34; refine (within_any _ _ _ _).mono ?_; rintro e w' ⟨rfl, rfl⟩))
  go_ret
  exact ⟨rfl, (Below.refl _ _).alloc (Nat.le_refl _) _⟩
theorem rule5 (v0 v1 v2 v3 v5 v6 v7 v8 v9 v10 v11 : Value) (x : Int) (w : World) :
    Calls Try.prog 38 #[.agg #[v0, v1, v2, v3, .int .i64 x, v5, v6, v7, v8, v9, v10, v11]] w fun e w' => e = .returned (.bool (win x 1 32)) ∧ Below w.heap.size w w' := by
  go_enter Try.func38, Try.ntmps38
  go_wp2_with (first | (go_at_call 34; refine (within_any _ _ _ _).mono ?_; rintro e w' ⟨rfl, rfl⟩))
  go_ret
  exact ⟨rfl, (Below.refl _ _).alloc (Nat.le_refl _) _⟩
theorem rule6 (v0 v1 v2 v3 v4 v6 v7 v8 v9 v10 v11 : Value) (x : Int) (w : World) :
    Calls Try.prog 39 #[.agg #[v0, v1, v2, v3, v4, .int .i64 x, v6, v7, v8, v9, v10, v11]] w fun e w' => e = .returned (.bool (win x 1 16)) ∧ Below w.heap.size w w' := by
  go_enter Try.func39, Try.ntmps39
  go_wp2_with (first | (go_at_call 34; refine (within_any _ _ _ _).mono ?_; rintro e w' ⟨rfl, rfl⟩))
  go_ret
  exact ⟨rfl, (Below.refl _ _).alloc (Nat.le_refl _) _⟩
theorem rule7 (v0 v1 v2 v3 v4 v5 v7 v8 v9 v10 v11 : Value) (x : Int) (w : World) :
    Calls Try.prog 40 #[.agg #[v0, v1, v2, v3, v4, v5, .int .i64 x, v7, v8, v9, v10, v11]] w fun e w' => e = .returned (.bool (win x 1 8)) ∧ Below w.heap.size w w' := by
  go_enter Try.func40, Try.ntmps40
  go_wp2_with (first | (go_at_call 34; refine (within_any _ _ _ _).mono ?_; rintro e w' ⟨rfl, rfl⟩))
  go_ret
  exact ⟨rfl, (Below.refl _ _).alloc (Nat.le_refl _) _⟩
theorem rule8 (v0 v1 v2 v3 v4 v5 v6 v8 v9 v10 v11 : Value) (x : Int) (w : World) :
    Calls Try.prog 41 #[.agg #[v0, v1, v2, v3, v4, v5, v6, .int .i64 x, v8, v9, v10, v11]] w fun e w' => e = .returned (.bool (win x 1 4)) ∧ Below w.heap.size w w' := by
  go_enter Try.func41, Try.ntmps41
  go_wp2_with (first | (go_at_call 34; refine (within_any _ _ _ _).mono ?_; rintro e w' ⟨rfl, rfl⟩))
  go_ret
  exact ⟨rfl, (Below.refl _ _).alloc (Nat.le_refl _) _⟩
theorem rule9 (v0 v1 v2 v3 v4 v5 v6 v7 v9 v10 v11 : Value) (x : Int) (w : World) :
    Calls Try.prog 42 #[.agg #[v0, v1, v2, v3, v4, v5, v6, v7, .int .i64 x, v9, v10, v11]] w fun e w' => e = .returned (.bool (win x 1 8)) ∧ Below w.heap.size w w' := by
  go_enter Try.func42, Try.ntmps42
  go_wp2_with (first | (go_at_call 34; refine (within_any _ _ _ _).mono ?_; rintro e w' ⟨rfl, rfl⟩))
  go_ret
  exact ⟨rfl, (Below.refl _ _).alloc (Nat.le_refl _) _⟩
theorem rule10 (v0 v1 v2 v3 v4 v5 v6 v7 v8 v10 v11 : Value) (x : Int) (w : World) :
    Calls Try.prog 43 #[.agg #[v0, v1, v2, v3, v4, v5, v6, v7, v8, .int .i64 x, v10, v11]] w fun e w' => e = .returned (.bool (win x 1 16)) ∧ Below w.heap.size w w' := by
  go_enter Try.func43, Try.ntmps43
  go_wp2_with (first | (go_at_call 34; refine (within_any _ _ _ _).mono ?_; rintro e w' ⟨rfl, rfl⟩))
  go_ret
  exact ⟨rfl, (Below.refl _ _).alloc (Nat.le_refl _) _⟩
theorem rule11 (v0 v1 v2 v3 v4 v5 v6 v7 v8 v9 v11 : Value) (x : Int) (w : World) :
    Calls Try.prog 44 #[.agg #[v0, v1, v2, v3, v4, v5, v6, v7, v8, v9, .int .i64 x, v11]] w fun e w' => e = .returned (.bool (win x 0 8)) ∧ Below w.heap.size w w' := by
  go_enter Try.func44, Try.ntmps44
  go_wp2_with (first | (go_at_call 34; refine (within_any _ _ _ _).mono ?_; rintro e w' ⟨rfl, rfl⟩))
  go_ret
  exact ⟨rfl, (Below.refl _ _).alloc (Nat.le_refl _) _⟩

/-- The rules in order: whether each is met, and its word. -/
def rulesL (n x1 x2 x3 x4 x5 x6 x7 x8 x9 x10 : Int) : List (Bool × ByteArray) := [(win n 1 4, (⟨#[99, 104, 97, 110, 110, 101, 108, 115]⟩ : ByteArray)), (win x1 1 4, (⟨#[97, 99, 99, 111, 117, 110, 116, 115]⟩ : ByteArray)), (win x2 1 8, (⟨#[115, 104, 97, 114, 100, 115]⟩ : ByteArray)), (win x3 1 64, (⟨#[114, 111, 111, 109]⟩ : ByteArray)), (win x4 1 32, (⟨#[112, 111, 111, 108]⟩ : ByteArray)), (win x5 1 16, (⟨#[98, 108, 111, 99, 107]⟩ : ByteArray)), (win x6 1 8, (⟨#[98, 97, 116, 99, 104]⟩ : ByteArray)), (win x7 1 4, (⟨#[116, 120, 115]⟩ : ByteArray)), (win x8 1 8, (⟨#[115, 99, 97, 110]⟩ : ByteArray)), (win x9 1 16, (⟨#[113, 117, 101, 117, 101]⟩ : ByteArray)), (win x10 0 8, (⟨#[119, 97, 105, 116]⟩ : ByteArray))]
/-- The first that isn't met. -/
def checkL : List (Bool × ByteArray) → ByteArray × Int
  | [] => (⟨#[]⟩, 0)
  | (b, s) :: r => if b = true then checkL r else (s, 1)
theorem checkL_yes {b : Bool} {s : ByteArray} {r : List (Bool × ByteArray)} (h : b = true) : checkL ((b, s) :: r) = checkL r := by simp [checkL, h]
theorem checkL_no {b : Bool} {s : ByteArray} {r : List (Bool × ByteArray)} (h : b = false) : checkL ((b, s) :: r) = (s, 1) := by simp [checkL, h]
theorem bcell {W w1 : World} (hb : Below W.heap.size W w1) : (∀ b o, b < W.heap.size → w1.cell? ⟨b, o, none⟩ = W.cell? ⟨b, o, none⟩) ∧ (∀ b o, b < W.heap.size → w1.frozen? ⟨b, o, none⟩ = W.frozen? ⟨b, o, none⟩) :=
  ⟨fun b o h => hb.cell (p := ⟨b, o, none⟩) h, fun b o h => hb.frozen (p := ⟨b, o, none⟩) h⟩

def cfgCells (A : Option Addr) (n c : Nat) (x1 x2 x3 x4 x5 x6 x7 x8 x9 x10 x11 : Int) : Array Value := #[.slice A n c, .int .i64 x1, .int .i64 x2, .int .i64 x3, .int .i64 x4, .int .i64 x5, .int .i64 x6, .int .i64 x7, .int .i64 x8, .int .i64 x9, .int .i64 x10, .int .u64 x11]
def ruleCells : Array Value := #[.string (⟨#[99, 104, 97, 110, 110, 101, 108, 115]⟩ : ByteArray), .func (Fn.func 33) #[] #[], .string (⟨#[97, 99, 99, 111, 117, 110, 116, 115]⟩ : ByteArray), .func (Fn.func 35) #[] #[], .string (⟨#[115, 104, 97, 114, 100, 115]⟩ : ByteArray), .func (Fn.func 36) #[] #[], .string (⟨#[114, 111, 111, 109]⟩ : ByteArray), .func (Fn.func 37) #[] #[], .string (⟨#[112, 111, 111, 108]⟩ : ByteArray), .func (Fn.func 38) #[] #[], .string (⟨#[98, 108, 111, 99, 107]⟩ : ByteArray), .func (Fn.func 39) #[] #[], .string (⟨#[98, 97, 116, 99, 104]⟩ : ByteArray), .func (Fn.func 40) #[] #[], .string (⟨#[116, 120, 115]⟩ : ByteArray), .func (Fn.func 41) #[] #[], .string (⟨#[115, 99, 97, 110]⟩ : ByteArray), .func (Fn.func 42) #[] #[], .string (⟨#[113, 117, 101, 117, 101]⟩ : ByteArray), .func (Fn.func 43) #[] #[], .string (⟨#[119, 97, 105, 116]⟩ : ByteArray), .func (Fn.func 44) #[] #[]]
set_option maxRecDepth 100000 in
theorem rules_any (w : World) : Calls Try.prog 31 #[] w fun e w' => e = .returned (.slice (some ⟨w.heap.size, 0, none⟩) 11 11) ∧ w' = w.alloc (.cells ruleCells 64) := by
  go_enter Try.func31, Try.ntmps31
  go_wp2
  go_ret
  exact ⟨rfl, rfl⟩
set_option maxHeartbeats 4000000 in
set_option maxRecDepth 100000 in
theorem check_any (A : Option Addr) (n c : Nat) (x1 x2 x3 x4 x5 x6 x7 x8 x9 x10 x11 : Int) (w : World) (hn : n ≤ 9223372036854775807) :
    Calls Try.prog 24 #[.agg #[.slice A n c, .int .i64 x1, .int .i64 x2, .int .i64 x3, .int .i64 x4, .int .i64 x5, .int .i64 x6, .int .i64 x7, .int .i64 x8, .int .i64 x9, .int .i64 x10, .int .u64 x11]] w
      fun e w' => e = .returned (.tuple #[.string (checkL (rulesL n x1 x2 x3 x4 x5 x6 x7 x8 x9 x10)).1, .int .i64 (checkL (rulesL n x1 x2 x3 x4 x5 x6 x7 x8 x9 x10)).2]) ∧ Below w.heap.size w w' := by
  obtain ⟨R, hR⟩ : ∃ R, R = checkL (rulesL n x1 x2 x3 x4 x5 x6 x7 x8 x9 x10) := ⟨_, rfl⟩
  rw [← hR]
  have HR := Lib.hid hR
  clear hR
  go_enter Try.func24, Try.ntmps24
  go_wp2_with (first | (go_at_call 31; refine (rules_any _).mono ?_; rintro e w' ⟨rfl, rfl⟩))
  go_loopw [8] (fun v8 wr => ∃ j : Nat, j ≤ 11 ∧ v8 = .int .i64 j ∧ Hid (R = checkL ((rulesL n x1 x2 x3 x4 x5 x6 x7 x8 x9 x10).drop j)) ∧ wr.heap[w.heap.size]? = some (.cells (cfgCells A n c x1 x2 x3 x4 x5 x6 x7 x8 x9 x10 x11) 25 (0, 0)) ∧ wr.heap[w.heap.size + 1]? = some (.cells ruleCells 64 (0, 0)) ∧ w.heap.size + 2 ≤ wr.heap.size ∧ Below w.heap.size w wr)
    (fun v8 _ => 11 - (intOf v8).toNat)
  case atStart =>
    refine ⟨0, by omega, rfl, HR, ?_, ?_, by simp, ?_⟩
    · exact (Below.heap_alloc _ _ _ (by simp)).trans (heap_alloc_new w _)
    · have := heap_alloc_new (w.alloc (.cells (cfgCells A n c x1 x2 x3 x4 x5 x6 x7 x8 x9 x10 x11) 25)) (.cells ruleCells 64)
      simpa [cfgCells] using this
    · exact ((Below.refl _ _).alloc (Nat.le_refl _) _).alloc (by simp) _
  case round =>
    obtain ⟨j, hj, rfl, HJ, hB0, hB1, hsz, hbel⟩ := hrel
    have hcf : ∀ i, i < 12 → wr.cell? ⟨w.heap.size, i, none⟩ = (cfgCells A n c x1 x2 x3 x4 x5 x6 x7 x8 x9 x10 x11)[i]? := fun i _ => cell_of_row wr _ i _ _ _ hB0
    have hru : ∀ i, wr.cell? ⟨w.heap.size + 1, i, none⟩ = ruleCells[i]? := fun i => cell_of_row wr _ i _ _ _ hB1
    have HB0 := Lib.hid hB0
    have HB1 := Lib.hid hB1
    have HSZ := Lib.hid hsz
    have HBEL := Lib.hid hbel
    have hl0 : w.heap.size < wr.heap.size := by omega
    have hl1 : w.heap.size + 1 < wr.heap.size := by omega
    clear hB0 hB1 hbel hsz
    have g0 := hcf 0 (by omega); have g1 := hcf 1 (by omega); have g2 := hcf 2 (by omega); have g3 := hcf 3 (by omega); have g4 := hcf 4 (by omega); have g5 := hcf 5 (by omega)
    have g6 := hcf 6 (by omega); have g7 := hcf 7 (by omega); have g8 := hcf 8 (by omega); have g9 := hcf 9 (by omega); have g10 := hcf 10 (by omega); have g11 := hcf 11 (by omega)
    clear hcf
    simp only [cfgCells] at g0 g1 g2 g3 g4 g5 g6 g7 g8 g9 g10 g11
    simp at g0 g1 g2 g3 g4 g5 g6 g7 g8 g9 g10 g11
    by_cases hend : j = 11
    · subst hend
      clear hru g0 g1 g2 g3 g4 g5 g6 g7 g8 g9 g10 g11
      go_wp2
      go_ret2
      refine ⟨?_, HBEL.out⟩
      rw [HJ.out]
      rfl
    · have hj11 : j < 11 := by omega
      clear hend hj
      rcases j with _ | _ | _ | _ | _ | _ | _ | _ | _ | _ | _ | j
      case succ.succ.succ.succ.succ.succ.succ.succ.succ.succ.succ => exact absurd hj11 (by omega)
      case zero =>
        have r0 := hru 0
        have r1 := hru 1
        clear hru
        simp [ruleCells] at r0 r1
        go_wp2_with (first | (go_at_call 33; go_must (refine (rule1 _ _ _ _ _ _ _ _ _ _ _ _ _ _ _ hn).mono ?_); rintro e w' ⟨rfl, hb⟩; obtain ⟨hc, hf⟩ := bcell hb))
        · go_ret2
          have hw := ‹(!win _ _ _) = true›
          simp only [Bool.not_eq_true'] at hw
          refine ⟨?_, below_then (HBEL.out.alloc (by omega) _) (by simp; omega) hb⟩
          have e := HJ.out.trans (checkL_no hw)
          rw [e]
          rfl
        · have hw := ‹(!win _ _ _) = false›
          simp only [Bool.not_eq_false'] at hw
          go_roundw
          case rel =>
            have hs := hb.size
            simp at hs
            exact ⟨1, by omega, by go_num, Lib.hid (HJ.out.trans (checkL_yes hw)), (hb.block _ (by simp; omega)).trans ((Below.heap_alloc _ _ _ hl0).trans HB0.out), (hb.block _ (by simp; omega)).trans ((Below.heap_alloc _ _ _ hl1).trans HB1.out), by omega, below_then (HBEL.out.alloc (by omega) _) (by simp; omega) hb⟩
          case measure => simp [intOf]
      case succ.zero =>
        have r0 := hru 2
        have r1 := hru 3
        clear hru
        simp [ruleCells] at r0 r1
        go_wp2_with (first | (go_at_call 35; go_must (refine (rule2 _ _ _ _ _ _ _ _ _ _ _ _ _).mono ?_); rintro e w' ⟨rfl, hb⟩; obtain ⟨hc, hf⟩ := bcell hb))
        · go_ret2
          have hw := ‹(!win _ _ _) = true›
          simp only [Bool.not_eq_true'] at hw
          refine ⟨?_, below_then (HBEL.out.alloc (by omega) _) (by simp; omega) hb⟩
          have e := HJ.out.trans (checkL_no hw)
          rw [e]
          rfl
        · have hw := ‹(!win _ _ _) = false›
          simp only [Bool.not_eq_false'] at hw
          go_roundw
          case rel =>
            have hs := hb.size
            simp at hs
            exact ⟨2, by omega, by go_num, Lib.hid (HJ.out.trans (checkL_yes hw)), (hb.block _ (by simp; omega)).trans ((Below.heap_alloc _ _ _ hl0).trans HB0.out), (hb.block _ (by simp; omega)).trans ((Below.heap_alloc _ _ _ hl1).trans HB1.out), by omega, below_then (HBEL.out.alloc (by omega) _) (by simp; omega) hb⟩
          case measure => simp [intOf]
      case succ.succ.zero =>
        have r0 := hru 4
        have r1 := hru 5
        clear hru
        simp [ruleCells] at r0 r1
        go_wp2_with (first | (go_at_call 36; go_must (refine (rule3 _ _ _ _ _ _ _ _ _ _ _ _ _).mono ?_); rintro e w' ⟨rfl, hb⟩; obtain ⟨hc, hf⟩ := bcell hb))
        · go_ret2
          have hw := ‹(!win _ _ _) = true›
          simp only [Bool.not_eq_true'] at hw
          refine ⟨?_, below_then (HBEL.out.alloc (by omega) _) (by simp; omega) hb⟩
          have e := HJ.out.trans (checkL_no hw)
          rw [e]
          rfl
        · have hw := ‹(!win _ _ _) = false›
          simp only [Bool.not_eq_false'] at hw
          go_roundw
          case rel =>
            have hs := hb.size
            simp at hs
            exact ⟨3, by omega, by go_num, Lib.hid (HJ.out.trans (checkL_yes hw)), (hb.block _ (by simp; omega)).trans ((Below.heap_alloc _ _ _ hl0).trans HB0.out), (hb.block _ (by simp; omega)).trans ((Below.heap_alloc _ _ _ hl1).trans HB1.out), by omega, below_then (HBEL.out.alloc (by omega) _) (by simp; omega) hb⟩
          case measure => simp [intOf]
      case succ.succ.succ.zero =>
        have r0 := hru 6
        have r1 := hru 7
        clear hru
        simp [ruleCells] at r0 r1
        go_wp2_with (first | (go_at_call 37; go_must (refine (rule4 _ _ _ _ _ _ _ _ _ _ _ _ _).mono ?_); rintro e w' ⟨rfl, hb⟩; obtain ⟨hc, hf⟩ := bcell hb))
        · go_ret2
          have hw := ‹(!win _ _ _) = true›
          simp only [Bool.not_eq_true'] at hw
          refine ⟨?_, below_then (HBEL.out.alloc (by omega) _) (by simp; omega) hb⟩
          have e := HJ.out.trans (checkL_no hw)
          rw [e]
          rfl
        · have hw := ‹(!win _ _ _) = false›
          simp only [Bool.not_eq_false'] at hw
          go_roundw
          case rel =>
            have hs := hb.size
            simp at hs
            exact ⟨4, by omega, by go_num, Lib.hid (HJ.out.trans (checkL_yes hw)), (hb.block _ (by simp; omega)).trans ((Below.heap_alloc _ _ _ hl0).trans HB0.out), (hb.block _ (by simp; omega)).trans ((Below.heap_alloc _ _ _ hl1).trans HB1.out), by omega, below_then (HBEL.out.alloc (by omega) _) (by simp; omega) hb⟩
          case measure => simp [intOf]
      case succ.succ.succ.succ.zero =>
        have r0 := hru 8
        have r1 := hru 9
        clear hru
        simp [ruleCells] at r0 r1
        go_wp2_with (first | (go_at_call 38; go_must (refine (rule5 _ _ _ _ _ _ _ _ _ _ _ _ _).mono ?_); rintro e w' ⟨rfl, hb⟩; obtain ⟨hc, hf⟩ := bcell hb))
        · go_ret2
          have hw := ‹(!win _ _ _) = true›
          simp only [Bool.not_eq_true'] at hw
          refine ⟨?_, below_then (HBEL.out.alloc (by omega) _) (by simp; omega) hb⟩
          have e := HJ.out.trans (checkL_no hw)
          rw [e]
          rfl
        · have hw := ‹(!win _ _ _) = false›
          simp only [Bool.not_eq_false'] at hw
          go_roundw
          case rel =>
            have hs := hb.size
            simp at hs
            exact ⟨5, by omega, by go_num, Lib.hid (HJ.out.trans (checkL_yes hw)), (hb.block _ (by simp; omega)).trans ((Below.heap_alloc _ _ _ hl0).trans HB0.out), (hb.block _ (by simp; omega)).trans ((Below.heap_alloc _ _ _ hl1).trans HB1.out), by omega, below_then (HBEL.out.alloc (by omega) _) (by simp; omega) hb⟩
          case measure => simp [intOf]
      case succ.succ.succ.succ.succ.zero =>
        have r0 := hru 10
        have r1 := hru 11
        clear hru
        simp [ruleCells] at r0 r1
        go_wp2_with (first | (go_at_call 39; go_must (refine (rule6 _ _ _ _ _ _ _ _ _ _ _ _ _).mono ?_); rintro e w' ⟨rfl, hb⟩; obtain ⟨hc, hf⟩ := bcell hb))
        · go_ret2
          have hw := ‹(!win _ _ _) = true›
          simp only [Bool.not_eq_true'] at hw
          refine ⟨?_, below_then (HBEL.out.alloc (by omega) _) (by simp; omega) hb⟩
          have e := HJ.out.trans (checkL_no hw)
          rw [e]
          rfl
        · have hw := ‹(!win _ _ _) = false›
          simp only [Bool.not_eq_false'] at hw
          go_roundw
          case rel =>
            have hs := hb.size
            simp at hs
            exact ⟨6, by omega, by go_num, Lib.hid (HJ.out.trans (checkL_yes hw)), (hb.block _ (by simp; omega)).trans ((Below.heap_alloc _ _ _ hl0).trans HB0.out), (hb.block _ (by simp; omega)).trans ((Below.heap_alloc _ _ _ hl1).trans HB1.out), by omega, below_then (HBEL.out.alloc (by omega) _) (by simp; omega) hb⟩
          case measure => simp [intOf]
      case succ.succ.succ.succ.succ.succ.zero =>
        have r0 := hru 12
        have r1 := hru 13
        clear hru
        simp [ruleCells] at r0 r1
        go_wp2_with (first | (go_at_call 40; go_must (refine (rule7 _ _ _ _ _ _ _ _ _ _ _ _ _).mono ?_); rintro e w' ⟨rfl, hb⟩; obtain ⟨hc, hf⟩ := bcell hb))
        · go_ret2
          have hw := ‹(!win _ _ _) = true›
          simp only [Bool.not_eq_true'] at hw
          refine ⟨?_, below_then (HBEL.out.alloc (by omega) _) (by simp; omega) hb⟩
          have e := HJ.out.trans (checkL_no hw)
          rw [e]
          rfl
        · have hw := ‹(!win _ _ _) = false›
          simp only [Bool.not_eq_false'] at hw
          go_roundw
          case rel =>
            have hs := hb.size
            simp at hs
            exact ⟨7, by omega, by go_num, Lib.hid (HJ.out.trans (checkL_yes hw)), (hb.block _ (by simp; omega)).trans ((Below.heap_alloc _ _ _ hl0).trans HB0.out), (hb.block _ (by simp; omega)).trans ((Below.heap_alloc _ _ _ hl1).trans HB1.out), by omega, below_then (HBEL.out.alloc (by omega) _) (by simp; omega) hb⟩
          case measure => simp [intOf]
      case succ.succ.succ.succ.succ.succ.succ.zero =>
        have r0 := hru 14
        have r1 := hru 15
        clear hru
        simp [ruleCells] at r0 r1
        go_wp2_with (first | (go_at_call 41; go_must (refine (rule8 _ _ _ _ _ _ _ _ _ _ _ _ _).mono ?_); rintro e w' ⟨rfl, hb⟩; obtain ⟨hc, hf⟩ := bcell hb))
        · go_ret2
          have hw := ‹(!win _ _ _) = true›
          simp only [Bool.not_eq_true'] at hw
          refine ⟨?_, below_then (HBEL.out.alloc (by omega) _) (by simp; omega) hb⟩
          have e := HJ.out.trans (checkL_no hw)
          rw [e]
          rfl
        · have hw := ‹(!win _ _ _) = false›
          simp only [Bool.not_eq_false'] at hw
          go_roundw
          case rel =>
            have hs := hb.size
            simp at hs
            exact ⟨8, by omega, by go_num, Lib.hid (HJ.out.trans (checkL_yes hw)), (hb.block _ (by simp; omega)).trans ((Below.heap_alloc _ _ _ hl0).trans HB0.out), (hb.block _ (by simp; omega)).trans ((Below.heap_alloc _ _ _ hl1).trans HB1.out), by omega, below_then (HBEL.out.alloc (by omega) _) (by simp; omega) hb⟩
          case measure => simp [intOf]
      case succ.succ.succ.succ.succ.succ.succ.succ.zero =>
        have r0 := hru 16
        have r1 := hru 17
        clear hru
        simp [ruleCells] at r0 r1
        go_wp2_with (first | (go_at_call 42; go_must (refine (rule9 _ _ _ _ _ _ _ _ _ _ _ _ _).mono ?_); rintro e w' ⟨rfl, hb⟩; obtain ⟨hc, hf⟩ := bcell hb))
        · go_ret2
          have hw := ‹(!win _ _ _) = true›
          simp only [Bool.not_eq_true'] at hw
          refine ⟨?_, below_then (HBEL.out.alloc (by omega) _) (by simp; omega) hb⟩
          have e := HJ.out.trans (checkL_no hw)
          rw [e]
          rfl
        · have hw := ‹(!win _ _ _) = false›
          simp only [Bool.not_eq_false'] at hw
          go_roundw
          case rel =>
            have hs := hb.size
            simp at hs
            exact ⟨9, by omega, by go_num, Lib.hid (HJ.out.trans (checkL_yes hw)), (hb.block _ (by simp; omega)).trans ((Below.heap_alloc _ _ _ hl0).trans HB0.out), (hb.block _ (by simp; omega)).trans ((Below.heap_alloc _ _ _ hl1).trans HB1.out), by omega, below_then (HBEL.out.alloc (by omega) _) (by simp; omega) hb⟩
          case measure => simp [intOf]
      case succ.succ.succ.succ.succ.succ.succ.succ.succ.zero =>
        have r0 := hru 18
        have r1 := hru 19
        clear hru
        simp [ruleCells] at r0 r1
        go_wp2_with (first | (go_at_call 43; go_must (refine (rule10 _ _ _ _ _ _ _ _ _ _ _ _ _).mono ?_); rintro e w' ⟨rfl, hb⟩; obtain ⟨hc, hf⟩ := bcell hb))
        · go_ret2
          have hw := ‹(!win _ _ _) = true›
          simp only [Bool.not_eq_true'] at hw
          refine ⟨?_, below_then (HBEL.out.alloc (by omega) _) (by simp; omega) hb⟩
          have e := HJ.out.trans (checkL_no hw)
          rw [e]
          rfl
        · have hw := ‹(!win _ _ _) = false›
          simp only [Bool.not_eq_false'] at hw
          go_roundw
          case rel =>
            have hs := hb.size
            simp at hs
            exact ⟨10, by omega, by go_num, Lib.hid (HJ.out.trans (checkL_yes hw)), (hb.block _ (by simp; omega)).trans ((Below.heap_alloc _ _ _ hl0).trans HB0.out), (hb.block _ (by simp; omega)).trans ((Below.heap_alloc _ _ _ hl1).trans HB1.out), by omega, below_then (HBEL.out.alloc (by omega) _) (by simp; omega) hb⟩
          case measure => simp [intOf]
      case succ.succ.succ.succ.succ.succ.succ.succ.succ.succ.zero =>
        have r0 := hru 20
        have r1 := hru 21
        clear hru
        simp [ruleCells] at r0 r1
        go_wp2_with (first | (go_at_call 44; go_must (refine (rule11 _ _ _ _ _ _ _ _ _ _ _ _ _).mono ?_); rintro e w' ⟨rfl, hb⟩; obtain ⟨hc, hf⟩ := bcell hb))
        · go_ret2
          have hw := ‹(!win _ _ _) = true›
          simp only [Bool.not_eq_true'] at hw
          refine ⟨?_, below_then (HBEL.out.alloc (by omega) _) (by simp; omega) hb⟩
          have e := HJ.out.trans (checkL_no hw)
          rw [e]
          rfl
        · have hw := ‹(!win _ _ _) = false›
          simp only [Bool.not_eq_false'] at hw
          go_roundw
          case rel =>
            have hs := hb.size
            simp at hs
            exact ⟨11, by omega, by go_num, Lib.hid (HJ.out.trans (checkL_yes hw)), (hb.block _ (by simp; omega)).trans ((Below.heap_alloc _ _ _ hl0).trans HB0.out), (hb.block _ (by simp; omega)).trans ((Below.heap_alloc _ _ _ hl1).trans HB1.out), by omega, below_then (HBEL.out.alloc (by omega) _) (by simp; omega) hb⟩
          case measure => simp [intOf]

/-- conf.Check, as a plain function. -/
def conf_Check.f (l0_0 : List Bool) (a0_1 a0_2 a0_3 a0_4 a0_5 a0_6 a0_7 a0_8 a0_9 a0_10 a0_11 : Int) : Option (ByteArray × Int) := some (checkL (rulesL (l0_0.length : Int) a0_1 a0_2 a0_3 a0_4 a0_5 a0_6 a0_7 a0_8 a0_9 a0_10))
theorem conf_Check.calls (A0_0 : Option Addr) (c0_0 : Nat) (l0_0 : List Bool) (a0_1 : Int) (a0_2 : Int) (a0_3 : Int) (a0_4 : Int) (a0_5 : Int) (a0_6 : Int) (a0_7 : Int) (a0_8 : Int) (a0_9 : Int) (a0_10 : Int) (a0_11 : Int) (r1 : ByteArray) (r2 : Int) (w : World) (hr0_0 : Kd.C Kd.bool w A0_0 l0_0.length l0_0) (hc0_0 : l0_0.length ≤ c0_0) (h : conf_Check.f l0_0 a0_1 a0_2 a0_3 a0_4 a0_5 a0_6 a0_7 a0_8 a0_9 a0_10 a0_11 = some (r1, r2)) :
    Calls Try.prog 24 #[.agg #[.slice A0_0 l0_0.length c0_0, .int .i64 a0_1, .int .i64 a0_2, .int .i64 a0_3, .int .i64 a0_4, .int .i64 a0_5, .int .i64 a0_6, .int .i64 a0_7, .int .i64 a0_8, .int .i64 a0_9, .int .i64 a0_10, .int .u64 a0_11]] w fun e w' => e = .returned (.tuple #[.string r1, .int .i64 r2]) ∧ Below w.heap.size w w' := by
  have e : checkL (rulesL (l0_0.length : Int) a0_1 a0_2 a0_3 a0_4 a0_5 a0_6 a0_7 a0_8 a0_9 a0_10) = (r1, r2) := Option.some.inj h
  have := check_any A0_0 l0_0.length c0_0 a0_1 a0_2 a0_3 a0_4 a0_5 a0_6 a0_7 a0_8 a0_9 a0_10 a0_11 w (Kd.C_max hr0_0)
  rw [e] at this
  exact this
end Go.Proofs.Ytlfminnncfgbfaa.Hand
