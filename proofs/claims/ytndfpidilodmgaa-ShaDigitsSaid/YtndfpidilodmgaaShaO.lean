/- An array of whole numbers that comes in: opened and shut. -/
import Derived.Test.YtndfpidilodmgaaRows
import Derived.OpenShut
import Derived.ChangeArms
import Derived.ChangeShapes
set_option linter.unusedSimpArgs false
set_option linter.unusedVariables false
namespace Go.Proofs.Ytndfpidilodmgaa.Hand
open Go.ChangeShapes Go.WideShapes
section
variable {H : Type} {enc : TypeId × Value → H} {P : Program} {w : World} {base : Nat} {spare : Nat → Bool} {held : Bool}
def unInt : Value → Int
  | .int _ a => a
  | _ => 0
/-- An array of whole numbers, opened. -/
theorem trod_row {t e : TypeId} {n fuel : Nat} {k : IntKind} {cs : List Value} {x : DataW H × List MemPlace} (ht : P.underlying t = some (.array n e)) (he : P.underlying e = some (.int k)) (hce : P.cellsOf e = 1) (hct : P.cellsOf t = n)
    (h : DataW.trod enc P w base spare held fuel t cs = some x) :
    ∃ L : List Int, cs = L.map (Value.int k) ∧ L.length = n ∧ x = (.agg (L.map fun a => .lit (.int k a)), []) ∧ ∀ a ∈ L, (Lit.int k a).wf = true := by
  obtain ⟨xs, m, rfl, rfl, hl, hx, hget⟩ := DataW.trod_array ht h
  rw [hct] at hl
  rw [hce] at hget
  have one : ∀ i (hi : i < n), ∃ a, cs[i]'(by omega) = .int k a ∧ xs[i]'(by omega) = (.lit (.int k a), []) ∧ (Lit.int k a).wf = true := fun i hi => by
    have h1 := hget i hi
    rw [Nat.mul_one, List.getElem?_eq_getElem (by omega), List.take_one, List.head?_drop, List.getElem?_eq_getElem (by omega)] at h1
    obtain ⟨a, h2, h3, h4⟩ := DataW.trod_int he h1
    injection h2 with h2
    exact ⟨a, h2, h3, h4⟩
  refine ⟨cs.map unInt, ?_, by simpa using hl, ?_, ?_⟩
  · apply List.ext_getElem
    · simp
    · intro i h1 h2
      obtain ⟨a, e1, _, _⟩ := one i (by omega)
      simp [e1, unInt]
  · have e1 : xs.map (·.1) = (cs.map unInt).map fun a => .lit (.int k a) := by
      apply List.ext_getElem
      · simp; omega
      · intro i h1 h2
        obtain ⟨a, e1, e2, _⟩ := one i (by simp at h1; omega)
        simp [e1, e2, unInt]
    have e2 : xs.flatMap (·.2) = [] := by
      rw [List.flatMap_eq_nil_iff]
      intro y hy
      obtain ⟨i, hi, rfl⟩ := List.getElem_of_mem hy
      obtain ⟨a, _, e2, _⟩ := one i (by omega)
      rw [e2]
    rw [e1, e2]
  · intro a ha
    obtain ⟨i, hi, rfl⟩ := List.getElem_of_mem ha
    obtain ⟨b, e1, _, hw⟩ := one i (by simp at hi; omega)
    simpa [e1, unInt] using hw
theorem mapM_all {α β : Type} {f : α → Option β} {g : α → β} : ∀ (l : List α), (∀ a ∈ l, f a = some (g a)) → l.mapM f = some (l.map g)
  | [], _ => rfl
  | a :: l, h => by
    rw [List.mapM_cons, h a (by simp), mapM_all l (fun b hb => h b (by simp [hb]))]
    rfl
/-- An array of whole numbers, shut. -/
theorem shut_row {t e : TypeId} {n : Nat} {k : IntKind} {L : List Int} (ht : P.underlying t = some (.array n e)) (he : P.underlying e = some (.int k)) (hce : P.cellsOf e = 1) (hct : P.cellsOf t = n)
    (hl : L.length = n) (hw : ∀ a ∈ L, (Lit.int k a).wf = true) : DataW.Trod enc P w base spare held t (.agg (L.map (Value.int k)).toArray) (.agg (L.map fun a => .lit (.int k a))) [] := by
  refine ⟨2, ?_⟩
  show DataW.trod enc P w base spare held 2 t (L.map (Value.int k)) = _
  have hlen : (L.map (Value.int k)).length = P.cellsOf t := by rw [List.length_map, hl, hct]
  have hm : ((List.range n).mapM fun i => DataW.trod enc P w base spare held 1 e (((L.map (Value.int k)).drop (i * P.cellsOf e)).take (P.cellsOf e))) = some ((List.range n).map fun i => ((.lit (.int k (L.getD i 0)), []) : DataW H × List MemPlace)) := by
    refine mapM_all _ (fun i hi => ?_)
    have hi' : i < L.length := by rw [hl]; exact List.mem_range.mp hi
    have h1 : ((L.map (Value.int k)).drop (i * P.cellsOf e)).take (P.cellsOf e) = [.int k (L.getD i 0)] := by
      rw [hce, Nat.mul_one, List.take_one, List.head?_drop, List.getElem?_map, List.getElem?_eq_getElem hi', List.getD_eq_getElem?_getD, List.getElem?_eq_getElem hi']
      rfl
    rw [h1]
    unfold DataW.trod
    rw [he]
    have hwi : (Lit.int k (L.getD i 0)).wf = true := by
      rw [List.getD_eq_getElem?_getD, List.getElem?_eq_getElem hi']
      exact hw _ (List.getElem_mem _)
    generalize L.getD i 0 = a at hwi ⊢
    simp [hwi]
  have hd : ((List.range n).map fun i => ((.lit (.int k (L.getD i 0)), []) : DataW H × List MemPlace)).map (·.1) = L.map fun a => .lit (.int k a) := by
    apply List.ext_getElem
    · simp [hl]
    · intro i h1 h2
      have hi' : i < L.length := by simpa using h2
      simp [List.getD_eq_getElem?_getD, List.getElem?_eq_getElem hi']
  have hp : ((List.range n).map fun i => ((.lit (.int k (L.getD i 0)), []) : DataW H × List MemPlace)).flatMap (·.2) = [] := by
    rw [List.flatMap_eq_nil_iff]
    intro y hy
    obtain ⟨i, _, rfl⟩ := List.mem_map.mp hy
    rfl
  unfold DataW.trod
  rw [ht]
  simp only [hlen, if_true]
  rw [hm, Option.map_some, hd, hp]
theorem open_row {r : Reach} {b0 : Nat} {t e : TypeId} {n : Nat} {k : IntKind} {v : Value} {d : DataW H} {ps : List MemPlace} (ht : P.underlying t = some (.array n e)) (he : P.underlying e = some (.int k)) (hce : P.cellsOf e = 1) (hct : P.cellsOf t = n)
    (hval : Value.okWide P w r b0 t v) (hd : DataW.Trod enc P w base spare held t v d ps) :
    ∃ L : List Int, v = .agg (L.map (Value.int k)).toArray ∧ d = .agg (L.map fun a => .lit (.int k a)) ∧ ps = [] ∧ L.length = n ∧ ∀ a ∈ L, (Lit.int k a).wf = true := by
  obtain ⟨cs, rfl, _⟩ : ∃ cs, v = .agg cs ∧ True := by
    have h := hval
    unfold Value.okWide at h
    rw [ht] at h
    simp only at h
    obtain ⟨cs, h1, _⟩ := h
    exact ⟨cs, h1, trivial⟩
  obtain ⟨fuel, hf⟩ := hd
  obtain ⟨L, h1, h2, h3, h4⟩ := trod_row ht he hce hct hf
  injection h3 with h5 h6
  refine ⟨L, ?_, h5, h6, h2, h4⟩
  have h7 : cs.toList = L.map (Value.int k) := h1
  rw [← h7]
end
end Go.Proofs.Ytndfpidilodmgaa.Hand
