import Derived.Test.YtgbdkhdilnogoaaTokA
namespace Go.Proofs.Ytgbdkhdilnogoaa.Hand
open Go.RowKit Go.Proofs.YtgbdkhdilnogoaaW.PrintWords Go.Proofs.YtgbdkhdilnogoaaW.PrintLast
theorem lt_of_heap {w : World} {i : Nat} {o : Obj} (h : w.heap[i]? = some o) : i < w.heap.size := by
  rcases Nat.lt_or_ge i w.heap.size with h1 | h1
  · exact h1
  · rw [Array.getElem?_eq_none h1] at h; cases h
theorem heap_below {W w' : World} {i : Nat} {o : Obj} (h : W.heap[i]? = some o) (hb : Below W.heap.size W w') : w'.heap[i]? = some o := (hb.block i (lt_of_heap h)).trans h
theorem reason_eq {L : List Int} {p : Option Addr} {w : World} {r : Int} (h : Ch w p L) (hr : firstR L = r) : Calls Try.prog 9 #[.pointer p] w fun e w' => e = .returned (.int .i64 r) ∧ w = w' := by
  have := reason_any L p w h
  rwa [hr] at this
theorem off_eq {L : List Int} {p : Option Addr} {w : World} {b : Bool} (h : Ch w p L) (hr : (firstR L != 0) = b) : Calls Try.prog 10 #[.pointer p] w fun e w' => e = .returned (.bool b) ∧ w = w' := by
  have := off_any L p w h
  rwa [hr] at this
theorem depth_eq {L : List Int} {p : Option Addr} {w : World} {d : Int} (h : Ch w p L) (hl : L.length ≤ 1000) (hd : ((L.length - 1 : Nat) : Int) = d) : Calls Try.prog 11 #[.pointer p] w fun e w' => e = .returned (.int .i64 d) ∧ ∃ n, w' = w.drewN n := by
  have := depth_any L p w h (by omega)
  rwa [hd] at this
theorem ch_child {w : World} {p : Option Addr} {L : List Int} (h : Ch w p L) : Ch (w.alloc (.cells #[.pointer p, .int .i64 0] 42)) (some ⟨w.heap.size, 0, none⟩) (0 :: L) :=
  ⟨w.heap.size, p, rfl, heap_alloc_new w _, h.below ((Below.refl _ _).alloc (Nat.le_refl _) _)⟩

theorem awake_first (w : World) : ((w.alloc (.cells #[.pointer none, .int .i64 0] 42)).alloc (.cells #[.pointer (some ⟨w.heap.size, 0, none⟩), .int .i64 0] 42)).heap[w.heap.size]? = some (.cells #[.pointer none, .int .i64 0] 42 (0, 0)) :=
  heap_below (heap_alloc_new w _) ((Below.refl _ _).alloc (Nat.le_refl _) _)
theorem awake_chain {w w5 : World} (ht5 : w5.heap[w.heap.size]? = some (.cells #[.pointer none, .int .i64 23] 42 (0, 0))) (hg5 : ((w.alloc (.cells #[.pointer none, .int .i64 0] 42)).alloc (.cells #[.pointer (some ⟨w.heap.size, 0, none⟩), .int .i64 0] 42)).grownBy w5 (some w.heap.size)) :
    Ch w5 (some ⟨w.heap.size + 1, 0, none⟩) [0, 23] := by
  refine ⟨_, _, rfl, (hg5.block (w.heap.size + 1) (by simp) (by simp)).trans ?_, ⟨_, _, rfl, ht5, rfl⟩⟩
  have := heap_alloc_new (w.alloc (.cells #[.pointer none, .int .i64 0] 42)) (.cells #[.pointer (some ⟨w.heap.size, 0, none⟩), .int .i64 0] 42)
  simpa using this
theorem awake_below {w w5 : World} (hg5 : ((w.alloc (.cells #[.pointer none, .int .i64 0] 42)).alloc (.cells #[.pointer (some ⟨w.heap.size, 0, none⟩), .int .i64 0] 42)).grownBy w5 (some w.heap.size)) : Below w.heap.size w w5 :=
  (below_alloc (below_alloc (Below.refl _ _) _) _).grown hg5 (by simp; omega) (fun k hk => by rw [← Option.some.inj hk]; exact Nat.le_refl _)

set_option maxHeartbeats 4000000 in
set_option maxRecDepth 100000 in
theorem awake_any (w : World) : Calls Try.prog 4 #[] w fun e w' => e = .returned (.bool true) ∧ Below w.heap.size w w' := by
  have H0 := Lib.hid (awake_first w)
  go_enter Try.func4, Try.ntmps4
  go_wp2_with (first
    | (go_at_call 5; refine (new_any _).mono ?_; rintro e w' ⟨rfl, rfl⟩)
    | (go_at_call 6; refine (child_any _ _).mono ?_; rintro e w' ⟨rfl, rfl⟩)
    | (go_at_call 7; refine (call_yes w.heap.size none 23 _ (by decide) H0.out).mono ?_; rintro e w5 ⟨rfl, ht5, hg5⟩; have HC5 := Lib.hid (awake_chain ht5 hg5); have HB5 := Lib.hid (awake_below hg5); clear ht5 hg5)
    | (go_at_call 9; refine (reason_eq (r := 23) HC5.out rfl).mono ?_; rintro e w' ⟨rfl, rfl⟩)
    | (go_at_call 10; refine (off_eq (b := true) HC5.out rfl).mono ?_; rintro e w' ⟨rfl, rfl⟩)
    | (go_at_call 11; refine (depth_eq (d := 1) HC5.out (by simp) rfl).mono ?_; rintro e w' ⟨rfl, n5, rfl⟩))
  go_ret
  exact ⟨rfl, by repeat (first | exact HB5.out | apply pw_below_drewN)⟩

end Go.Proofs.Ytgbdkhdilnogoaa.Hand
