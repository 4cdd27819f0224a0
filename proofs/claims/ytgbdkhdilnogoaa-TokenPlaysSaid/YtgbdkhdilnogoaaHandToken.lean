/- The tokens: what each of a token's methods does, over the chain of tokens that it hangs on. -/
import Derived.Test.YtgbdkhdilnogoaaHand0
namespace Go.Proofs.Ytgbdkhdilnogoaa.Hand
open Go.RowKit Go.Proofs.YtgbdkhdilnogoaaW.PrintWords Go.Proofs.YtgbdkhdilnogoaaW.PrintLast
set_option linter.unusedVariables false
set_option linter.unusedSimpArgs false

/-- The token at `p` has the reasons `L`: its own first, then those of what it hangs on. -/
def Ch (w : World) : Option Addr → List Int → Prop
  | p, [] => p = none
  | p, r :: L => ∃ b q, p = some ⟨b, 0, none⟩ ∧ w.heap[b]? = some (.cells #[.pointer q, .int .i64 r] 42 (0, 0)) ∧ Ch w q L
def firstR : List Int → Int
  | [] => 0
  | r :: L => if r = 0 then firstR L else r
theorem Ch.keep {w w' : World} : ∀ {L : List Int} {p : Option Addr}, Ch w p L → (∀ i, i < w.heap.size → w'.heap[i]? = w.heap[i]?) → Ch w' p L
  | [], _, h, _ => h
  | _ :: _, _, ⟨b, q, hp, hb, hc⟩, hk => ⟨b, q, hp, (hk b (by
      rcases Nat.lt_or_ge b w.heap.size with h | h
      · exact h
      · rw [Array.getElem?_eq_none h] at hb; cases hb)).trans hb, hc.keep hk⟩
theorem Ch.below {w w' : World} {L : List Int} {p : Option Addr} (h : Ch w p L) (hb : Below w.heap.size w w') : Ch w' p L := h.keep hb.block

theorem new_any (w : World) : Calls Try.prog 5 #[] w fun e w' => e = .returned (.pointer (some ⟨w.heap.size, 0, none⟩)) ∧ w.alloc (.cells #[.pointer none, .int .i64 0] 42) = w' := by
  go_enter Try.func5, Try.ntmps5
  go_wp2
  go_ret
  exact ⟨rfl, rfl⟩
theorem child_any (p : Option Addr) (w : World) : Calls Try.prog 6 #[.pointer p] w fun e w' => e = .returned (.pointer (some ⟨w.heap.size, 0, none⟩)) ∧ w.alloc (.cells #[.pointer p, .int .i64 0] 42) = w' := by
  go_enter Try.func6, Try.ntmps6
  go_wp2
  go_ret
  exact ⟨rfl, rfl⟩
theorem call_none (c : Int) (w : World) : Calls Try.prog 7 #[.pointer none, .int .i64 c] w fun e w' => e = .returned (.bool false) ∧ ∃ n, w' = w.drewN n := by
  go_enter Try.func7, Try.ntmps7
  go_wp2
  go_ret
  exact ⟨rfl, 0, rfl⟩
theorem reason_any (L : List Int) (p : Option Addr) (w : World) (h : Ch w p L) : Calls Try.prog 9 #[.pointer p] w fun e w' => e = .returned (.int .i64 (firstR L)) ∧ w = w' := by
  have H := Lib.hid h
  clear h
  obtain ⟨R, hR⟩ : ∃ R, R = firstR L := ⟨_, rfl⟩
  rw [← hR]
  have HR := Lib.hid hR
  clear hR
  go_enter Try.func9, Try.ntmps9
  go_wp2
  go_step3
  go_wp2
  go_step3
  go_wp2
  go_loopg [0, 3] L.length (fun gk v0 v3 wr => ∃ p L', v0 = .pointer p ∧ v3 = .int .i64 0 ∧ Hid (Ch w p L') ∧ L'.length = gk ∧ Hid (R = firstR L') ∧ wr = w)
  case atStart => exact ⟨p, L, rfl, rfl, H, rfl, HR, rfl⟩
  case round =>
    obtain ⟨p, L', rfl, rfl, HC, rfl, HF, rfl⟩ := hrel
    rcases L' with _ | ⟨r, L'⟩
    · obtain rfl : p = none := HC.out
      go_wp2
      rw [Exit.noGoto_ret]
      go_ret
      exact ⟨by rw [HF.out]; rfl, rfl⟩
    · obtain ⟨b, q, rfl, hb, hq⟩ : ∃ b q, p = some ⟨b, 0, none⟩ ∧ wr.heap[b]? = some (.cells #[.pointer q, .int .i64 r] 42 (0, 0)) ∧ Ch wr q L' := HC.out
      have HQ := Lib.hid hq
      have c0 : wr.cell? ⟨b, 0, none⟩ = some (.pointer q) := (cell_of_row wr b 0 _ _ _ hb).trans rfl
      have c1 : wr.cell? ⟨b, 1, none⟩ = some (.int .i64 r) := (cell_of_row wr b 1 _ _ _ hb).trans rfl
      clear hb hq
      by_cases h0 : r = 0
      · have h0b : (r != 0) = false := by simp [h0]
        have H0 := Lib.hid h0
        clear h0
        go_wp2
        go_roundg L'.length
        case measure => simp
        case rel => exact ⟨q, L', rfl, rfl, HQ, rfl, Lib.hid (by rw [HF.out]; simp [firstR, H0.out]), rfl⟩
      · have h0b : (r != 0) = true := by simp [h0]
        have H0 := Lib.hid h0
        clear h0
        go_wp2
        rw [Exit.noGoto_ret]
        go_ret
        exact ⟨by rw [HF.out]; simp [firstR, H0.out], rfl⟩
theorem off_any (L : List Int) (p : Option Addr) (w : World) (h : Ch w p L) : Calls Try.prog 10 #[.pointer p] w fun e w' => e = .returned (.bool (firstR L != 0)) ∧ w = w' := by
  have H := Lib.hid h
  clear h
  go_enter Try.func10, Try.ntmps10
  go_wp2_with (first | (go_at_call 9; refine (reason_any L p _ H.out).mono ?_; rintro e w' ⟨rfl, rfl⟩))
  go_ret
  exact ⟨rfl, rfl⟩
theorem depth_any (L : List Int) (p : Option Addr) (w : World) (h : Ch w p L) (hl : L.length ≤ 4611686018427387904) : Calls Try.prog 11 #[.pointer p] w fun e w' => e = .returned (.int .i64 ((L.length - 1 : Nat) : Int)) ∧ ∃ n, w' = w.drewN n := by
  have H := Lib.hid h
  clear h
  go_enter Try.func11, Try.ntmps11
  go_wp2
  go_loopg [0, 3] L.length (fun gk v0 v3 wr => ∃ p L' m, v0 = .pointer p ∧ Hid (Ch wr p L') ∧ L'.length = gk ∧ v3 = .int .i64 ((m : Nat) : Int) ∧ Hid (m + (L'.length - 1) = L.length - 1 ∧ (L'.length = 0 → L.length = 0)) ∧ m ≤ L.length ∧ ∃ n, wr = w.drewN n)
  case atStart => exact ⟨p, L, 0, rfl, H, rfl, rfl, Lib.hid ⟨by omega, by omega⟩, by omega, 0, rfl⟩
  case round =>
    obtain ⟨p, L', m, rfl, HC, rfl, rfl, HF, hm, n, rfl⟩ := hrel
    rcases L' with _ | ⟨r, L'⟩
    · obtain rfl : p = none := HC.out
      go_wp2
      go_ret
      refine ⟨?_, n, rfl⟩
      have := HF.out
      simp at this
      have e : L.length - 1 = m := by omega
      rw [e]
      rfl
    · obtain ⟨b, q, rfl, hb, hq⟩ : ∃ b q, p = some ⟨b, 0, none⟩ ∧ (w.drewN n).heap[b]? = some (.cells #[.pointer q, .int .i64 r] 42 (0, 0)) ∧ Ch (w.drewN n) q L' := HC.out
      have c0 : (w.drewN n).cell? ⟨b, 0, none⟩ = some (.pointer q) := (cell_of_row (w.drewN n) b 0 _ _ _ hb).trans rfl
      have c0' : w.cell? ⟨b, 0, none⟩ = some (.pointer q) := c0
      clear hb
      have HF' := HF.out
      rcases L' with _ | ⟨r2, L2⟩
      · obtain rfl : q = none := hq
        go_wp2
        go_ret
        refine ⟨?_, _, rfl⟩
        simp at HF'
        have e : L.length - 1 = m := by omega
        rw [e]
        rfl
      · have HQ := Lib.hid hq
        obtain ⟨b2, q2, rfl, _, _⟩ := hq
        have hm2 : m < L.length := by simp at HF'; omega
        clear HF'
        go_wp2
        go_roundg (r2 :: L2).length
        case measure => simp
        case rel =>
          have HF' := HF.out
          exact ⟨_, r2 :: L2, m + 1, rfl, Lib.hid (HQ.out.keep (fun i _ => rfl)), rfl, by go_num, Lib.hid (by simp at HF' ⊢; omega), by omega, _, rfl⟩

/-- `Call` on a token that is there: it takes the reason. -/
theorem call_yes (b : Nat) (q : Option Addr) (c : Int) (w : World) (hc : c ≠ 0) (h : w.heap[b]? = some (.cells #[.pointer q, .int .i64 0] 42 (0, 0))) :
    Calls Try.prog 7 #[.pointer (some ⟨b, 0, none⟩), .int .i64 c] w fun e w' => e = .returned (.bool true) ∧ w'.heap[b]? = some (.cells #[.pointer q, .int .i64 c] 42 (0, 0)) ∧ w.grownBy w' (some b) := by
  have c0 : w.cell? ⟨b, 0, none⟩ = some (.pointer q) := (cell_of_row w b 0 _ _ _ h).trans rfl
  have c1 : w.cell? ⟨b, 1, none⟩ = some (.int .i64 0) := (cell_of_row w b 1 _ _ _ h).trans rfl
  have f1 : w.frozen? ⟨b, 1, none⟩ = false := by simp [World.frozen?, h]
  have e0 : (c == 0) = false := by simpa using hc
  have H := Lib.hid h
  clear h
  go_enter Try.func7, Try.ntmps7
  go_wp2
  go_ret
  refine ⟨rfl, ?_, ?_⟩
  · have h := H.out
    simp [World.setCell, Array.getElem?_modify, h]
  · exact ⟨rfl, rfl, rfl, by simp [World.setCell], fun i hi hne => Below.heap_setCell _ _ _ i (by rintro rfl; exact hne rfl)⟩
/-- `Call` that takes nothing: no reason is told, or there is one. -/
theorem call_no (b : Nat) (q : Option Addr) (r c : Int) (w : World) (hc : c = 0 ∨ r ≠ 0) (h : w.heap[b]? = some (.cells #[.pointer q, .int .i64 r] 42 (0, 0))) :
    Calls Try.prog 7 #[.pointer (some ⟨b, 0, none⟩), .int .i64 c] w fun e w' => e = .returned (.bool false) ∧ ∃ n, w' = w.drewN n := by
  have c0 : w.cell? ⟨b, 0, none⟩ = some (.pointer q) := (cell_of_row w b 0 _ _ _ h).trans rfl
  have c1 : w.cell? ⟨b, 1, none⟩ = some (.int .i64 r) := (cell_of_row w b 1 _ _ _ h).trans rfl
  clear h
  by_cases h0 : c = 0
  · subst h0
    go_enter Try.func7, Try.ntmps7
    go_wp2
    go_ret
    exact ⟨rfl, 0, rfl⟩
  · have e0 : (c == 0) = false := by simpa using h0
    have hr : r ≠ 0 := by rcases hc with hc | hc; exact absurd hc h0; exact hc
    have e1 : (r != 0) = true := by simpa using hr
    clear h0 hc hr
    go_enter Try.func7, Try.ntmps7
    go_wp2
    go_ret
    exact ⟨rfl, 0, rfl⟩
end Go.Proofs.Ytgbdkhdilnogoaa.Hand
