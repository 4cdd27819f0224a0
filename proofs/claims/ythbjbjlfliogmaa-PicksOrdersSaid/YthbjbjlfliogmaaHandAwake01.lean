/- The examples of the page on digits: they are as the page says. -/
import Derived.Test.YthbjbjlfliogmaaHandDigit
namespace Go.Proofs.Ythbjbjlfliogmaa.Hand
open Go.RowKit Go.Proofs.YthbjbjlfliogmaaW.PrintWords Go.Proofs.YthbjbjlfliogmaaW.PrintLast
set_option linter.unusedVariables false
set_option linter.unusedSimpArgs false

set_option maxHeartbeats 2000000 in
set_option maxRecDepth 100000 in
theorem number_ex (g : Nat) (s : ByteArray) (w : World) (hs : s.size = 2) (hne : s.toList.isEmpty = false) (hb0 : ∀ h : 0 < s.size, ((s[0]'h).toNat : Int) = 1) (hb1 : ∀ h : 1 < s.size, ((s[1]'h).toNat : Int) = 7) (h : w.heap[g]? = some (.cells #[.string s, .int .i64 0] 93 (0, 0))) :
    Calls Try.prog 61 #[.pointer (some ⟨g, 0, none⟩)] w fun e w' => e = .returned (.tuple #[.int .u64 7, .int .i64 0]) ∧ w.grownBy w' (some g) := by
  have c0 : w.cell? ⟨g, 0, none⟩ = some (.string s) := (cell_of_row w g 0 _ _ _ h).trans rfl
  have c1 : w.cell? ⟨g, 1, none⟩ = some (.int .i64 0) := (cell_of_row w g 1 _ _ _ h).trans rfl
  have f0 : w.frozen? ⟨g, 0, none⟩ = false := by simp [World.frozen?, h]
  have H := Lib.hid h
  clear h
  go_enter Try.func61, Try.ntmps61
  go_wp2
  go_loop [5, 50] (fun v5 v50 => (v50 = .int .i64 0 ∧ v5 = .int .u64 0) ∨ (v50 = .int .i64 1 ∧ v5 = .int .u64 7)) (fun _ v50 => (1 - intOf v50).toNat)
  case atStart => exact Or.inl ⟨rfl, rfl⟩
  case round =>
    have hbo : bits .or .u64 0 7 = 7 := by decide +kernel
    rcases hrel with ⟨rfl, rfl⟩ | ⟨rfl, rfl⟩
    · go_wp2
      go_round
      case rel => exact Or.inr ⟨rfl, rfl⟩
      case measure => simp [intOf]
    · go_wp2
      go_ret2
      refine ⟨rfl, ?_⟩
      exact ⟨rfl, rfl, rfl, by simp [World.setCell], fun i hi hne => Below.heap_setCell _ _ _ i (by rintro rfl; exact hne rfl)⟩
theorem read_any (s : ByteArray) (w : World) : Calls Try.prog 58 #[.string s] w fun e w' => e = .returned (.pointer (some ⟨w.heap.size, 0, none⟩)) ∧ w.alloc (.cells #[.string s, .int .i64 0] 93) = w' := by
  go_enter Try.func58, Try.ntmps58
  go_wp2
  go_ret
  exact ⟨rfl, rfl⟩
theorem bytes_ex : (⟨#[1, 7]⟩ : ByteArray).size = 2 ∧ (⟨#[1, 7]⟩ : ByteArray).toList.isEmpty = false ∧ (∀ h : 0 < (⟨#[1, 7]⟩ : ByteArray).size, (((⟨#[1, 7]⟩ : ByteArray)[0]'h).toNat : Int) = 1) ∧ (∀ h : 1 < (⟨#[1, 7]⟩ : ByteArray).size, (((⟨#[1, 7]⟩ : ByteArray)[1]'h).toNat : Int) = 7) :=
  ⟨rfl, by decide +kernel, fun _ => rfl, fun _ => rfl⟩
theorem heap_later {W w' : World} {i : Nat} {o : Obj} (h : W.heap[i]? = some o) (hb : Below W.heap.size W w') : w'.heap[i]? = some o := by
  have hl : i < W.heap.size := by
    rcases Nat.lt_or_ge i W.heap.size with h1 | h1
    · exact h1
    · rw [Array.getElem?_eq_none h1] at h; cases h
  exact (hb.block i hl).trans h
theorem boxes3 (w w5 : World) (g : Nat) (A B C : Array Value) (a b c : TypeId) (hg : g < w.heap.size) (h5 : (((w.alloc (.cells A a)).alloc (.cells B b)).alloc (.cells C c)).grownBy w5 (some g)) :
    w5.heap[w.heap.size]? = some (.cells A a (0, 0)) ∧ w5.heap[w.heap.size + 1]? = some (.cells B b (0, 0)) ∧ w5.heap[w.heap.size + 2]? = some (.cells C c (0, 0)) ∧ w.heap.size + 3 ≤ w5.heap.size := by
  have e0 : (((w.alloc (.cells A a)).alloc (.cells B b)).alloc (.cells C c)).heap[w.heap.size]? = some (.cells A a (0, 0)) := heap_later (heap_later (heap_alloc_new w _) ((Below.refl _ _).alloc (Nat.le_refl _) _)) ((Below.refl _ _).alloc (Nat.le_refl _) _)
  have e1 : (((w.alloc (.cells A a)).alloc (.cells B b)).alloc (.cells C c)).heap[w.heap.size + 1]? = some (.cells B b (0, 0)) := by
    have := heap_later (heap_alloc_new (w.alloc (.cells A a)) (.cells B b)) ((Below.refl _ _).alloc (Nat.le_refl _) (.cells C c))
    simpa using this
  have e2 : (((w.alloc (.cells A a)).alloc (.cells B b)).alloc (.cells C c)).heap[w.heap.size + 2]? = some (.cells C c (0, 0)) := by
    have := heap_alloc_new ((w.alloc (.cells A a)).alloc (.cells B b)) (.cells C c)
    simpa using this
  have hs : w.heap.size + 3 ≤ w5.heap.size := by have := h5.size; simp at this; omega
  exact ⟨(h5.block _ (by simp; omega) (by simp; omega)).trans e0, (h5.block _ (by simp) (by simp; omega)).trans e1, (h5.block _ (by simp) (by simp; omega)).trans e2, hs⟩
theorem grown_set {a w : World} {g : Nat} (h : a.grownBy w (some g)) {p : Addr} (hp : p.block = g ∨ a.heap.size ≤ p.block) (u : Value) : a.grownBy (w.setCell p u) (some g) :=
  ⟨h.os, h.tape, h.output, by simpa [World.setCell] using h.size, fun i hi hne => (Below.heap_setCell w p u i (by
    rintro rfl
    rcases hp with hp | hp
    · exact hne (by rw [hp])
    · omega)).trans (h.block i hi hne)⟩
theorem grown_after {a w w' : World} {row : Option Nat} (h : Below a.heap.size a w) (k : w.grownBy w' row) : a.grownBy w' row :=
  ⟨k.os.trans h.os, k.tape.trans h.tape, k.output.trans h.output, Nat.le_trans h.size k.size, fun i hi hne => (k.block i (Nat.lt_of_lt_of_le hi h.size) hne).trans (h.block i hi)⟩
set_option maxHeartbeats 4000000 in
set_option maxRecDepth 100000 in
theorem numread_ex (g : Nat) (s : ByteArray) (w : World) (hs : s.size = 2) (hne : s.toList.isEmpty = false) (hb0 : ∀ h : 0 < s.size, ((s[0]'h).toNat : Int) = 1) (hb1 : ∀ h : 1 < s.size, ((s[1]'h).toNat : Int) = 7) (h : w.heap[g]? = some (.cells #[.string s, .int .i64 0] 93 (0, 0))) :
    Calls Try.prog 18 #[.pointer (some ⟨g, 0, none⟩), .int .u64 9] w fun e w' => e = .returned (.int .u64 7) ∧ w.grownBy w' (some g) := by
  have c0 : w.cell? ⟨g, 0, none⟩ = some (.string s) := (cell_of_row w g 0 _ _ _ h).trans rfl
  have c1 : w.cell? ⟨g, 1, none⟩ = some (.int .i64 0) := (cell_of_row w g 1 _ _ _ h).trans rfl
  have hg : g < w.heap.size := by
    rcases Nat.lt_or_ge g w.heap.size with h1 | h1
    · exact h1
    · rw [Array.getElem?_eq_none h1] at h; cases h
  have hg1 : g < w.heap.size + 1 := by omega
  have hg2 : g < w.heap.size + 1 + 1 := by omega
  have H := Lib.hid h
  clear h
  go_enter Try.func18, Try.ntmps18
  go_wp2_with (first
    | (go_at_call 61; refine (number_ex g s _ hs hne hb0 hb1 ?side).mono ?_; rotate_right; rintro e w5 ⟨rfl, hg5⟩; obtain ⟨b0, b1, b2, hz⟩ := boxes3 _ _ _ _ _ _ _ _ _ hg hg5; have k0 : w5.cell? ⟨w.heap.size, 0, none⟩ = some (.pointer (some ⟨g, 0, none⟩)) := (cell_of_row w5 _ 0 _ _ _ b0).trans rfl; have k1 : w5.cell? ⟨w.heap.size + 1, 0, none⟩ = some (.int .u64 9) := (cell_of_row w5 _ 0 _ _ _ b1).trans rfl; have k2 : w5.cell? ⟨w.heap.size + 2, 0, none⟩ = some (.int .u64 0) := (cell_of_row w5 _ 0 _ _ _ b2).trans rfl; have k2' : w5.cell? ⟨w.heap.size + 1 + 1, 0, none⟩ = some (.int .u64 0) := k2; have f2 : w5.frozen? ⟨w.heap.size + 2, 0, none⟩ = false := (by simp [World.frozen?, b2]); have f2' : w5.frozen? ⟨w.heap.size + 1 + 1, 0, none⟩ = false := f2; have HG5 := Lib.hid hg5; clear hg5 b0 b1 b2)
    | go_in)
  · refine bodyPost_ret (v := .int .u64 7) (by simp [results, Try.results18, go_sem, k2']) rfl ⟨rfl, ?_⟩
    have h3 := grown_after (below_alloc (below_alloc (below_alloc (Below.refl w.heap.size w) _) _) _) HG5.out
    repeat (first | exact h3 | (refine grown_set ?_ (Or.inr (by simp; omega)) _))
  case side => exact heap_later (heap_later (heap_later H.out (below_alloc (Below.refl _ _) _)) (below_alloc (Below.refl _ _) _)) (below_alloc (Below.refl _ _) _)
theorem num_ex0 (w : World) : Calls Try.prog 12 #[.int .u64 0] w fun e w' => e = .returned (.string ⟨#[0]⟩) ∧ Below w.heap.size w w' := by
  have h := num_walk 0 (by decide) w
  rwa [show strOfNums (numNums 0) = ⟨#[0]⟩ by decide +kernel] at h
theorem num_ex300 (w : World) : Calls Try.prog 12 #[.int .u64 300] w fun e w' => e = .returned (.string ⟨#[2, 1, 44]⟩) ∧ Below w.heap.size w w' := by
  have h := num_walk 300 (by decide) w
  rwa [show strOfNums (numNums 300) = ⟨#[2, 1, 44]⟩ by decide +kernel] at h
theorem num_ex2 (w : World) : Calls Try.prog 12 #[.int .u64 2] w fun e w' => e = .returned (.string ⟨#[1, 2]⟩) ∧ Below w.heap.size w w' := by
  have h := num_walk 2 (by decide) w
  rwa [show strOfNums (numNums 2) = ⟨#[1, 2]⟩ by decide +kernel] at h
set_option maxHeartbeats 4000000 in
set_option maxRecDepth 100000 in
theorem awake01_any (w : World) : Calls Try.prog 11 #[] w fun e w' => e = .returned (.bool true) ∧ Below w.heap.size w w' := by
  have hcat : ((⟨#[1, 2]⟩ : ByteArray) ++ (⟨#[97, 98]⟩ : ByteArray)).toList = [1, 2, 97, 98] := by decide +kernel
  go_enter Try.func11, Try.ntmps11
  go_wp2_with (first
    | (go_at_call 12; with_reducible refine (num_ex0 _).mono ?_; rintro e w1 ⟨rfl, hb1⟩)
    | (go_at_call 12; with_reducible refine (num_ex300 _).mono ?_; rintro e w2 ⟨rfl, hb2⟩)
    | (go_at_call 12; with_reducible refine (num_ex2 _).mono ?_; rintro e w3 ⟨rfl, hb3⟩)
    | (go_at_call 58; refine (read_any _ _).mono ?_; rintro e w4 ⟨rfl, rfl⟩)
    | (go_at_call 18; refine (numread_ex w3.heap.size ⟨#[1, 7]⟩ _ bytes_ex.1 bytes_ex.2.1 bytes_ex.2.2.1 bytes_ex.2.2.2 (heap_alloc_new w3 _)).mono ?_; rintro e w5 ⟨rfl, hg5⟩)
    | go_in)
  go_ret
  have h3 : Below w.heap.size w w3 := below_then (below_then hb1 hb1.size hb2) (Nat.le_trans hb1.size hb2.size) hb3
  exact ⟨rfl, (below_alloc h3 _).grown hg5 (by have := h3.size; simp; omega) (fun k hk => by rw [← Option.some.inj hk]; exact h3.size)⟩

/-- The examples, as a plain function. -/
def muleteerlaw01_awake.f : Option (Bool) := some true
theorem muleteerlaw01_awake.calls (r : Bool) (w : World) (h : muleteerlaw01_awake.f = some r) :
    Calls Try.prog 11 #[] w fun e w' => e = .returned (.bool r) ∧ Below w.heap.size w w' := by
  obtain rfl := Option.some.inj h
  exact awake01_any w
end Go.Proofs.Ythbjbjlfliogmaa.Hand
