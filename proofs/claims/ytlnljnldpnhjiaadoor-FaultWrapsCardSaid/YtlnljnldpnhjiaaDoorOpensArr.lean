/- Arrays of whole numbers that read as data, told as plain lists. -/
import Derived.Test.YtlnljnldpnhjiaaDoorOpens
import Derived.Test.YtlnljnldpnhjiaaDoorWArr
import Derived.ChangeArms
namespace Go.Proofs.YtlnljnldpnhjiaaDoor.Opens
open Go.RowKit Go.ChangeShapes Go.WideShapes Go.ChangeAt Go.Deep Go.Proofs.YtlnljnldpnhjiaaDoorW.PrintWords
def unInt : Value → Int
  | .int _ a => a
  | _ => 0
/-- An array of whole numbers, opened. -/
theorem trod_row {H : Type} {enc : TypeId × Value → H} {P : Program} {w : World} {base : Nat} {spare : Nat → Bool} {held : Bool} {t e : TypeId} {n fuel : Nat} {k : IntKind} {cs : List Value} {x : DataW H × List MemPlace} (ht : P.underlying t = some (.array n e)) (he : P.underlying e = some (.int k)) (hce : P.cellsOf e = 1) (hct : P.cellsOf t = n)
    (h : DataW.trod enc P w base spare held fuel t cs = some x) :
    ∃ L : List Int, cs = L.map (Value.int k) ∧ L.length = n ∧ ∀ a ∈ L, (Lit.int k a).wf = true := by
  obtain ⟨xs, m, rfl, rfl, hl, hx, hget⟩ := DataW.trod_array ht h
  rw [hct] at hl
  rw [hce] at hget
  have one : ∀ i (hi : i < n), ∃ a, cs[i]'(by omega) = .int k a ∧ (Lit.int k a).wf = true := fun i hi => by
    have h1 := hget i hi
    rw [Nat.mul_one, List.getElem?_eq_getElem (by omega), List.take_one, List.head?_drop, List.getElem?_eq_getElem (by omega)] at h1
    obtain ⟨a, h2, _, h4⟩ := DataW.trod_int he h1
    injection h2 with h2
    exact ⟨a, h2, h4⟩
  refine ⟨cs.map unInt, ?_, by simpa using hl, ?_⟩
  · apply List.ext_getElem
    · simp
    · intro i h1 h2
      obtain ⟨a, e1, _⟩ := one i (by omega)
      simp [e1, unInt]
  · intro a ha
    obtain ⟨i, hi, rfl⟩ := List.getElem_of_mem ha
    obtain ⟨b, e1, hw⟩ := one i (by simp at hi; omega)
    simpa [e1, unInt] using hw
theorem opens_arr {P : Program} {T e : TypeId} {n : Nat} {k : IntKind} (hs : 0 < (Kd.int k).sz) (ht : P.underlying T = some (.array n e)) (he : P.underlying e = some (.int k)) (hce : P.cellsOf e = 1) (hct : P.cellsOf T = n) :
    Opens P T (Kd.arr n (Kd.int k) hs) (fun L => ∀ a ∈ L, (Lit.int k a).wf = true) := by
  intro H enc w base spare held fuel cs x h _
  obtain ⟨L, rfl, hl, hw⟩ := trod_row ht he hce hct h
  exact ⟨L, (Kd.arr n (Kd.int k) hs).K_of_M (base := 0) (ok := fun _ => True) (Kd.arr_of_cells hl), hw⟩
/-- An argument that is an array of whole numbers. -/
theorem arg_arr {H : Type} {enc : TypeId × Value → H} {P : Program} {T e : TypeId} {n : Nat} {k : IntKind} {W : World} {r : Reach} {b0 base : Nat} {spare : Nat → Bool} {held : Bool} {v : Value} {x : DataW H} {p : List MemPlace} (ht : P.underlying T = some (.array n e)) (he : P.underlying e = some (.int k)) (hce : P.cellsOf e = 1) (hct : P.cellsOf T = n)
    (hv : Value.okWide P W r b0 T v) (h : DataW.Trod enc P W base spare held T v x p) : ∃ L : List Int, v = .agg (L.map (Value.int k)).toArray ∧ L.length = n ∧ ∀ a ∈ L, (Lit.int k a).wf = true := by
  have hv2 := hv
  simp only [Value.okWide, ht] at hv2
  obtain ⟨cs, rfl, _⟩ := hv2
  obtain ⟨fuel, hf⟩ := h
  obtain ⟨L, e1, hl, hw⟩ := trod_row ht he hce hct hf
  refine ⟨L, ?_, hl, hw⟩
  have e2 : cs.toList = L.map (Value.int k) := by simpa [Value.cells] using e1
  rw [← e2]
/-- The cells of a list of arrays of whole numbers. -/
theorem arr_at {n m : Nat} {k : IntKind} {hs : 0 < (Kd.int k).sz} {w : World} {A : Option Addr} {L : List (List Int)} (h : (Kd.arr n (Kd.int k) hs).C w A m L) (h0 : 0 < m) (hn : 0 < n) :
    ∃ ab ao, A = some ⟨ab, ao, none⟩ ∧ ab < w.heap.size ∧ ∀ i, i < m → ∀ j, j < n → w.cell? ⟨ab, ao + i * n + j, none⟩ = some (.int k ((L.getD i []).getD j 0)) := by
  obtain ⟨ad, rfl, hat⟩ := h.2.2 h0
  have hL : L.length = m := h.1
  have key : ∀ i, i < m → ∀ j, j < n → w.cell? (ad.add (i * n + j)) = some (.int k ((L.getD i []).getD j 0)) := fun i hi j hj => by
    obtain ⟨cs, hcl, hK, hc⟩ := hat i (L.getD i []) (by rw [List.getD_eq_getElem?_getD, List.getElem?_eq_getElem (by omega)]; rfl)
    obtain ⟨hl, rfl⟩ := Kd.arr_cells hK
    have := hc j (.int k ((L.getD i []).getD j 0)) (by
      rw [encs, List.getElem?_map, List.getElem?_eq_getElem (by omega), List.getD_eq_getElem?_getD (l := L.getD i []), List.getElem?_eq_getElem (by omega)]
      rfl)
    rw [show i * (Kd.arr n (Kd.int k) hs).sz = i * n by show i * (n * 1) = i * n; rw [Nat.mul_one]] at this
    exact this
  have z := key 0 h0 0 hn
  rw [Nat.zero_mul, Nat.add_zero] at z
  obtain ⟨ab, ao, sp⟩ := ad
  have hsp : sp = none := by
    cases sp with
    | none => rfl
    | some s =>
      exfalso
      simp only [Addr.add, if_true, World.cell?, Option.isSome] at z
      split at z <;> simp at z
  subst hsp
  refine ⟨ab, ao, rfl, ?_, fun i hi j hj => ?_⟩
  · simp only [Addr.add, if_true, World.cell?] at z
    rcases Nat.lt_or_ge ab w.heap.size with h1 | h1
    · exact h1
    · rw [Array.getElem?_eq_none h1] at z
      cases z
  · have := key i hi j hj
    unfold Addr.add at this
    split at this
    · rename_i h00
      have h1 : i * n = 0 := by omega
      have h2 : j = 0 := by omega
      rw [h1, h2]
      rw [h2] at this
      exact this
    · rw [Nat.add_assoc]
      exact this
end Go.Proofs.YtlnljnldpnhjiaaDoor.Opens
