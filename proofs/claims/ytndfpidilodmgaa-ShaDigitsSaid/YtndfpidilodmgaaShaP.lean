/- What Pad of package sha returns, of a number from 0 to 2^60. -/
import Derived.Test.YtndfpidilodmgaaShaC
import Derived.Test.YtndfpidilodmgaaPShaPadsx
set_option linter.unusedSimpArgs false
set_option linter.unusedVariables false
namespace Go.Proofs.Ytndfpidilodmgaa.Hand
open Go.RowKit Go.Proofs.YtndfpidilodmgaaW.PrintWords Go.Proofs.YtndfpidilodmgaaW.PrintLast
open Go.Proofs.Ytndfpidilodmgaa.PShaPads
def padZ (n : Nat) : Nat := (119 - n % 64) % 64
/-- The bytes of the number of bits, one by one. -/
def padByte (n i : Nat) : Int := ((n * 8 / 2 ^ (56 - 8 * i) % 256 : Nat) : Int)
def padSt (n : Nat) : Nat → List Int
  | 0 => (List.replicate (padZ n + 9) (0 : Int)).set 0 128
  | i + 1 => (padSt n i).set (1 + padZ n + i) (padByte n i)
def padB (n : Nat) : ByteArray := strOfNums (padSt n 8)
theorem padSt_len (n : Nat) : ∀ i, (padSt n i).length = padZ n + 9
  | 0 => by rw [padSt, List.length_set, List.length_replicate]
  | i + 1 => by rw [padSt, List.length_set]; exact padSt_len n i
theorem pad_loop (n : Nat) (hn : n ≤ 1152921504606846976) : ∀ (j i : Nat), i + j = 8 → sha_Pad.l0 (j + 1) (n : Int) (padZ n : Int) (padSt n i) (i : Int) = some (padB n)
  | 0, i, h => by
    obtain rfl : i = 8 := by omega
    rw [sha_Pad.l0, if_neg (by decide)]
    rfl
  | j + 1, i, h => by
    have hz : padZ n < 64 := Nat.mod_lt _ (by decide)
    have hi : (i : Int) < 8 := by omega
    have e1 : wrap64 (8 * (i : Int)) = 8 * (i : Int) := by unfold wrap64; omega
    have e2 : wrap64 (56 - 8 * (i : Int)) = 56 - 8 * (i : Int) := by unfold wrap64; omega
    have e3 : wrap64 (1 + (padZ n : Int)) = 1 + (padZ n : Int) := by unfold wrap64; omega
    have e4 : wrap64 (1 + (padZ n : Int) + (i : Int)) = 1 + (padZ n : Int) + (i : Int) := by unfold wrap64; omega
    have e5 : wrap64 ((i : Int) + 1) = ((i + 1 : Nat) : Int) := by unfold wrap64; omega
    have e6 : IntKind.u64.wrap (n : Int) = (n : Int) := by rw [IntKind.wrap_u64]; omega
    have e7 : IntKind.u64.wrap ((n : Int) * 8) = (n : Int) * 8 := by rw [IntKind.wrap_u64]; omega
    have e8 : shr .u64 ((n : Int) * 8) (56 - 8 * (i : Int)) % 256 = padByte n i := by
      have h1 : (56 - 8 * (i : Int)).toNat = 56 - 8 * i := by omega
      have h2 : min (56 - 8 * i) IntKind.u64.bits = 56 - 8 * i := Nat.min_eq_left (by show _ ≤ 64; omega)
      unfold shr padByte
      rw [h1, h2]
      simp
    have e9 : (1 + (padZ n : Int) + (i : Int)).toNat = 1 + padZ n + i := by omega
    rw [sha_Pad.l0, if_pos hi, e1, e2, e3, e4, e5, e6, e7, e8, e9, if_pos (by omega), if_pos (by omega), if_pos (by rw [padSt_len]; omega)]
    exact pad_loop n hn j (i + 1) (by omega)
theorem pad_up (n : Nat) (_hn : n ≤ 1152921504606846976) (z : Int) (l : List Int) (i : Int) (r : ByteArray) (h : sha_Pad.l0 9 (n : Int) z l i = some r) : sha_Pad.l0 19 (n : Int) z l i = some r := by
  have m := fun k => (sha_Pad.mono_l k).2 (n : Int) z l i
  exact m 18 _ (m 17 _ (m 16 _ (m 15 _ (m 14 _ (m 13 _ (m 12 _ (m 11 _ (m 10 _ (m 9 _ h)))))))))
theorem pad_f (n : Nat) (hn : n ≤ 1152921504606846976) : sha_Pad.f 20 (n : Int) = some (padB n) := by
  have hz : padZ n < 64 := Nat.mod_lt _ (by decide)
  have a1 : Int.tmod (n : Int) 64 = ((n % 64 : Nat) : Int) := rfl
  have a2 : wrap64 (119 - ((n % 64 : Nat) : Int)) = ((119 - n % 64 : Nat) : Int) := by unfold wrap64; omega
  have a3 : Int.tmod ((119 - n % 64 : Nat) : Int) 64 = (padZ n : Int) := rfl
  have a4 : wrap64 (1 + (padZ n : Int)) = 1 + (padZ n : Int) := by unfold wrap64; omega
  have a5 : wrap64 (1 + (padZ n : Int) + 8) = ((padZ n + 9 : Nat) : Int) := by unfold wrap64; omega
  rw [sha_Pad.f, if_neg (by omega), show decide ((n : Int) > 1152921504606846976) = false from decide_eq_false (by omega), sha_Pad.j0, if_neg (by decide), a1, a2, a3, a4, a5, if_pos (by omega), if_pos (by omega), Option.bind_some, if_pos (by rw [List.length_replicate]; omega), Int.toNat_natCast]
  have h := pad_loop n hn 8 0 rfl
  exact pad_up n hn _ _ _ _ h
theorem pad_walk (n : Nat) (hn : n ≤ 1152921504606846976) (w : World) : Calls Try.prog 10 #[.int .i64 (n : Int)] w fun e w' => e = .returned (.string (padB n)) ∧ Below w.heap.size w w' := sha_Pad.calls 20 _ _ w (pad_f n hn)
end Go.Proofs.Ytndfpidilodmgaa.Hand
