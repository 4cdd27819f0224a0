/- How arguments of any shape (numbers, texts, structs, slices of these) that read as data are told as plain values, with the bounds that the reach gives. -/
import Derived.Test.YtegaadahogjeiaaHand0
import Derived.Deep.Slices
import Derived.ProofKit
import Derived.SizedLaws
import Derived.OpenShut
namespace Go.Proofs.Ytegaadahogjeiaa.Opens
open Go.RowKit Go.ChangeShapes Go.WideShapes Go.ChangeAt Go.Deep Go.Proofs.YtegaadahogjeiaaW.PrintWords

def Opens (P : Program) (T : TypeId) {α : Type} (d : Kd α) (ok : α → Prop) : Prop :=
  ∀ (H : Type) (enc : TypeId × Value → H) (w : World) (base : Nat) (spare : Nat → Bool) (held : Bool) (fuel : Nat) (cs : List Value) (x : DataW H × List MemPlace),
    DataW.trod enc P w base spare held fuel T cs = some x → (∀ n ∈ x.1.weights P T, n ≤ reachBytes) → ∃ v, d.K w v cs ∧ ok v

theorem opens_int {P : Program} {T : TypeId} {k : IntKind} (ht : P.underlying T = some (.int k)) : Opens P T (Kd.int k) (fun n => (Lit.int k n).wf = true) := by
  intro H enc w base spare held fuel cs x h _
  obtain ⟨n, rfl, _, hw⟩ := DataW.trod_int ht h
  exact ⟨n, rfl, hw⟩
theorem opens_bool {P : Program} {T : TypeId} (ht : P.underlying T = some .bool) : Opens P T Kd.bool (fun _ => True) := by
  intro H enc w base spare held fuel cs x h _
  obtain ⟨b, rfl, _⟩ := DataW.trod_bool ht h
  exact ⟨b, rfl, trivial⟩
theorem opens_string {P : Program} {T : TypeId} (ht : P.underlying T = some .string) : Opens P T Kd.string (fun s => s.size ≤ 140737488351232) := by
  intro H enc w base spare held fuel cs x h hw
  obtain ⟨s, rfl, rfl, _⟩ := DataW.trod_string ht h
  refine ⟨s, rfl, ?_⟩
  have := hw s.data.toList.length (by simp [DataW.weights])
  rw [Array.length_toList] at this
  exact this

theorem weights_all {H : Type} {P : Program} {e : TypeId} : ∀ {l : List (DataW H)} {d : DataW H}, d ∈ l → ∀ n ∈ d.weights P e, n ∈ DataW.weightsAll P e l
  | [], _, h, _, _ => by cases h
  | d0 :: r, d, h, n, hn => by
    simp only [DataW.weightsAll, List.mem_append]
    rcases List.mem_cons.1 h with rfl | h
    · exact Or.inl hn
    · exact Or.inr (weights_all h n hn)

theorem opens_slice {P : Program} {T e : TypeId} {α : Type} {d : Kd α} {ok : α → Prop} (ht : P.underlying T = some (.slice e)) (hc : P.cellsOf e = d.sz) {bytes : Nat} (hb : P.bytesOf e = bytes) (h0 : Opens P e d ok) :
    Opens P T (Kd.slice e d) (fun xs => xs.length * bytes ≤ 140737488351232 ∧ ∀ x ∈ xs, ok x) := by
  intro H enc w base spare held fuel cs x h hw
  rcases open_slice ht h with ⟨rfl, rfl⟩ | ⟨a, len, cap, m, n, D, Pl, rfl, hba, hl, hm, hmm, rfl, hi⟩
  · exact ⟨[], ⟨none, 0, rfl, by simp, Kd.C_nil d w⟩, by simp, by simp⟩
  · have hlm : len ≤ m := by rw [hmm]; split <;> omega
    have hel : ∀ i, i < len → ∃ v, (∃ cs', w.cells? base (a.add (i * P.cellsOf e)) (P.cellsOf e) = some cs' ∧ d.K w v cs') ∧ ok v := by
      intro i hil
      obtain ⟨cs', hcs, htr⟩ := hi i (by omega)
      obtain ⟨v, hK, hok⟩ := h0 H enc w base spare held n cs' (D i, Pl i) htr (fun k hk => hw k (by
        simp only [DataW.weights, ht, List.mem_cons, List.mem_append]
        exact Or.inr (Or.inl (weights_all (List.mem_map.2 ⟨i, List.mem_range.2 hil, rfl⟩) k hk))))
      exact ⟨v, ⟨cs', hcs, hK⟩, hok⟩
    have hbig : len * bytes ≤ 140737488351232 := by
      have := hw ((((List.range len).map D).length + ((List.range (m - len)).map fun j => D (len + j)).length) * P.bytesOf e) (by simp [DataW.weights, ht])
      simp only [List.length_map, List.length_range, hb] at this
      have e1 : len + (m - len) = m := by omega
      rw [e1] at this
      exact Nat.le_trans (Nat.mul_le_mul_right _ hlm) this
    have hall : ∀ N, N ≤ len → ∃ xs : List α, xs.length = N ∧ (∀ j p, xs[j]? = some p → (∃ cs', w.cells? base (a.add (j * P.cellsOf e)) (P.cellsOf e) = some cs' ∧ d.K w p cs') ∧ ok p) := by
      intro N
      induction N with
      | zero => intro _; exact ⟨[], rfl, by simp⟩
      | succ N ih =>
        intro hN
        obtain ⟨xs, hlen, hx⟩ := ih (by omega)
        obtain ⟨v, hv⟩ := hel N (by omega)
        refine ⟨xs ++ [v], by simp [hlen], fun j p hj => ?_⟩
        rcases Nat.lt_or_ge j xs.length with h1 | h1
        · rw [List.getElem?_append_left h1] at hj
          exact hx j p hj
        · have hj2 : j = N := by
            have := (List.getElem?_eq_some_iff.1 hj).1
            simp at this
            omega
          subst hj2
          rw [List.getElem?_append_right h1, ← hlen] at hj
          simp at hj
          subst hj
          exact hv
    obtain ⟨xs, hlen, hx⟩ := hall len (Nat.le_refl _)
    refine ⟨xs, ⟨some a, cap, by rw [hlen], by omega, rfl, by have : maxLen = 9223372036854775807 := rfl; omega, fun _ => ⟨a, rfl, fun j p hj => ?_⟩⟩, by rw [hlen]; exact hbig, fun p hp => ?_⟩
    · obtain ⟨⟨cs', hcs, hK⟩, _⟩ := hx j p hj
      obtain ⟨_, hcl, hat⟩ := World.cells?_some hcs
      refine ⟨cs', d.K_len hK, hK, fun i u hu => ?_⟩
      have hil : i < P.cellsOf e := by
        have := (List.getElem?_eq_some_iff.1 hu).1
        omega
      have h2 := hat i hil
      rw [hu] at h2
      rw [← Go.Deep.add_add]
      rw [hc] at h2
      exact h2
    · obtain ⟨j, hj, rfl⟩ := List.getElem_of_mem hp
      exact (hx j _ (List.getElem?_eq_getElem hj)).2

/-- The fields of a struct from one place on. -/
def OpensF (P : Program) (fs : List Field) (off : Nat) {α : Type} (d : Kd α) (ok : α → Prop) : Prop :=
  ∀ (H : Type) (enc : TypeId × Value → H) (w : World) (base : Nat) (spare : Nat → Bool) (held : Bool) (n : Nat) (cs : List Value) (ys : List (DataW H × List MemPlace)),
    ys.length = fs.length → (∀ (i : Nat) (f : Field), fs[i]? = some f → DataW.trod enc P w base spare held n f.type ((cs.drop f.offset).take (P.cellsOf f.type)) = ys[i]?) →
    (∀ m ∈ DataW.weightsEach P (fs.map (·.type)) (ys.map (·.1)), m ≤ reachBytes) → cs.length = off + d.sz → ∃ v, d.K w v (cs.drop off) ∧ ok v
theorem opensF_one {P : Program} {f : Field} {off : Nat} {α : Type} {d : Kd α} {ok : α → Prop} (hoff : f.offset = off) (hc : P.cellsOf f.type = d.sz) (h0 : Opens P f.type d ok) : OpensF P [f] off d ok := by
  intro H enc w base spare held n cs ys hlen hf hw hcs
  match ys, hlen with
  | [y], _ =>
    have h1 := hf 0 f rfl
    rw [hoff, hc] at h1
    have h2 : (cs.drop off).take d.sz = cs.drop off := List.take_of_length_le (by simp; omega)
    rw [h2] at h1
    exact h0 H enc w base spare held n _ y h1 (fun m hm => hw m (by simp [DataW.weightsEach, hm]))
theorem opensF_cons {P : Program} {f : Field} {fs : List Field} {off : Nat} {α β : Type} {d : Kd α} {d' : Kd β} {ok : α → Prop} {ok' : β → Prop} (hoff : f.offset = off) (hc : P.cellsOf f.type = d.sz) (h0 : Opens P f.type d ok)
    (h1 : OpensF P fs (off + d.sz) d' ok') : OpensF P (f :: fs) off (Kd.pair d d') (fun p => ok p.1 ∧ ok' p.2) := by
  intro H enc w base spare held n cs ys hlen hf hw hcs
  match ys, hlen with
  | y :: ys, hlen =>
    have hsz : (Kd.pair d d').sz = d.sz + d'.sz := rfl
    rw [hsz] at hcs
    have h2 := hf 0 f rfl
    rw [hoff, hc] at h2
    obtain ⟨v, hK, hok⟩ := h0 H enc w base spare held n _ y h2 (fun m hm => hw m (by simp [DataW.weightsEach, hm]))
    obtain ⟨v', hK', hok'⟩ := h1 H enc w base spare held n cs ys (by simpa using hlen) (fun i g hg => by simpa using hf (i + 1) g (by simpa using hg)) (fun m hm => hw m (by
      simp only [List.map_cons, DataW.weightsEach, List.mem_append]
      exact Or.inr hm)) (by omega)
    refine ⟨(v, v'), ⟨_, _, ?_, hK, hK'⟩, hok, hok'⟩
    rw [← List.drop_drop]
    exact (List.take_append_drop _ _).symm
theorem opens_struct {P : Program} {T : TypeId} {fs : Array Field} {α β : Type} {d : Kd α} {ok : α → Prop} {g : β → α} (mk : α → β) (hg : ∀ a, g (mk a) = a) (ht : P.underlying T = some (.struct fs)) (hc : P.cellsOf T = d.sz)
    (h0 : OpensF P fs.toList 0 d ok) : Opens P T (Kd.iso d g) (fun b => ok (g b)) := by
  intro H enc w base spare held fuel cs x h hw
  obtain ⟨ys, n, rfl, rfl, hlen, hyl, hf⟩ := DataW.trod_struct ht h
  obtain ⟨v, hK, hok⟩ := h0 H enc w base spare held n cs ys (by simpa using hyl) (fun i f hi => hf i f (by simpa using hi)) (fun m hm => hw m (by
    simp only [DataW.weights, ht]
    exact hm)) (by omega)
  refine ⟨mk v, ?_, ?_⟩
  · show d.K w (g (mk v)) cs
    rw [hg]
    exact hK
  · show ok (g (mk v))
    rw [hg]; exact hok

/-- An argument that is a struct. -/
theorem arg_struct {P : Program} {T : TypeId} {fs : Array Field} {α : Type} {d : Kd α} {ok : α → Prop} (h0 : Opens P T d ok) (ht : P.underlying T = some (.struct fs)) {H : Type} {enc : TypeId × Value → H} {W : World} {r : Reach} {b0 base : Nat} {spare : Nat → Bool} {held : Bool}
    {v : Value} {x : DataW H} {p : List MemPlace} (hv : Value.okWide P W r b0 T v) (h : DataW.Trod enc P W base spare held T v x p) (hw : ∀ n ∈ x.weights P T, n ≤ reachBytes) : ∃ a cs, v = .agg cs ∧ d.K W a cs.toList ∧ ok a := by
  obtain ⟨cs, rfl, hsz⟩ := okWide_struct ht hv
  obtain ⟨fuel, hf⟩ := h
  obtain ⟨a, hK, hok⟩ := h0 H enc W base spare held fuel _ _ hf hw
  exact ⟨a, cs, rfl, by simpa [Value.cells] using hK, hok⟩
/-- An argument that is a slice. -/
theorem arg_slice {P : Program} {T e : TypeId} {α : Type} {d : Kd α} {ok : List α → Prop} (h0 : Opens P T (Kd.slice e d) ok) (ht : P.underlying T = some (.slice e)) {H : Type} {enc : TypeId × Value → H} {W : World} {r : Reach} {b0 base : Nat} {spare : Nat → Bool} {held : Bool}
    {v : Value} {x : DataW H} {p : List MemPlace} (hv : Value.okWide P W r b0 T v) (h : DataW.Trod enc P W base spare held T v x p) (hw : ∀ n ∈ x.weights P T, n ≤ reachBytes) : ∃ A c l, v = .slice A l.length c ∧ l.length ≤ c ∧ d.C W A l.length l ∧ ok l := by
  obtain ⟨A, len, cap, rfl⟩ := okWide_slice ht hv
  obtain ⟨fuel, hf⟩ := h
  obtain ⟨l, ⟨A', c, hcs, hl, hC⟩, hok⟩ := h0 H enc W base spare held fuel _ _ hf hw
  simp [Value.cells] at hcs
  obtain ⟨rfl, rfl, rfl⟩ := hcs
  exact ⟨_, _, l, rfl, hl, hC, hok⟩
/-- The weights of one argument. -/
theorem weigh {H : Type} {P : Program} {ts : List TypeId} {ds : List (DataW H)} (h : (DataW.weightsEach P ts ds).all (· ≤ reachBytes) = true) {j : Nat} {t : TypeId} {d : DataW H} (ht : ts[j]? = some t) (hd : ds[j]? = some d) : ∀ n ∈ d.weights P t, n ≤ reachBytes := by
  intro n hn
  have := List.all_eq_true.1 h _ (DataW.weights_mem_each ht hd n hn)
  simpa using this
end Go.Proofs.Ytegaadahogjeiaa.Opens
