import Derived.Test.YtgbdkhdilnogoaaTokB
namespace Go.Proofs.Ytgbdkhdilnogoaa.Hand
open Go.RowKit Go.Proofs.YtgbdkhdilnogoaaW.PrintWords Go.Proofs.YtgbdkhdilnogoaaW.PrintLast
theorem kept_block {W W' : World} {row : Option Nat} {j : Nat} {o : Obj} (hg : W.grownBy W' row) (h : W.heap[j]? = some o) (hne : some j ≠ row) : W'.heap[j]? = some o := (hg.block j (blk_lt h) hne).trans h
theorem own_ne {W : World} {B e size n : Nat} {v : Value} {xs : List Value} {j t : Nat} {cs : Array Value} {fr : Nat × Nat} (h : W.ownsRow B e size v n xs) (hj : W.heap[j]? = some (.cells cs t fr)) (ht : t ≠ e) : some j ≠ v.ownBlock := by
  rcases h.2 with ⟨rfl, _⟩ | ⟨g, cap, cur, rfl, _, hg, _⟩
  · simp [Value.ownBlock]
  · intro e1
    simp only [Value.ownBlock, Option.some.injEq] at e1
    subst e1
    rw [hj] at hg
    injection hg with hg
    injection hg with _ h2 _
    exact ht h2
theorem own_own {W : World} {B e size n B' e' size' n' : Nat} {v v' : Value} {xs xs' : List Value} (h : W.ownsRow B e size v n xs) (h' : W.ownsRow B' e' size' v' n' xs') (ht : e ≠ e') : v.ownBlock = none ∨ v.ownBlock ≠ v'.ownBlock := by
  rcases h.2 with ⟨rfl, _⟩ | ⟨g, cap, cur, rfl, _, hg, _⟩
  · exact .inl rfl
  · exact .inr (own_ne h' hg ht)
theorem own_blk {W : World} {B e size n : Nat} {v : Value} {xs : List Value} {j t : Nat} {cs : Array Value} {fr : Nat × Nat} (h : W.ownsRow B e size v n xs) (hj : W.heap[j]? = some (.cells cs t fr)) (ht : t ≠ e) : v.ownBlock = none ∨ v.ownBlock ≠ some j := by
  rcases h.2 with ⟨rfl, _⟩ | ⟨g, cap, cur, rfl, _, hg, _⟩
  · exact .inl rfl
  · refine .inr (fun e1 => ?_)
    simp only [Value.ownBlock, Option.some.injEq] at e1
    subst e1
    rw [hj] at hg
    injection hg with hg
    injection hg with _ h2 _
    exact ht h2
def ptr (T : List Nat) (a : Int) : Option Addr := if a < 0 then none else some ⟨T.getD a.toNat 0, 0, none⟩
/-- The tokens lie in the blocks T, as the lists say: whose parent each one's is, and its own reason. -/
structure Tok (W : World) (T : List Nat) (P O : List Int) : Prop where
  lenP : P.length = T.length
  lenO : O.length = T.length
  cell : ∀ k, k < T.length → W.heap[T.getD k 0]? = some (.cells #[.pointer (ptr T (P.getD k 0)), .int .i64 (O.getD k 0)] 42 (0, 0))
  up : ∀ k, k < T.length → -1 ≤ P.getD k 0 ∧ P.getD k 0 < k
  inj : ∀ j k, j < T.length → k < T.length → T.getD j 0 = T.getD k 0 → j = k
theorem Tok.kept {W W' : World} {T : List Nat} {P O : List Int} {row : Option Nat} (h : Tok W T P O) (hg : W.grownBy W' row) (hr : ∀ k, k < T.length → some (T.getD k 0) ≠ row) : Tok W' T P O :=
  ⟨h.lenP, h.lenO, fun k hk => kept_block hg (h.cell k hk) (hr k hk), h.up, h.inj⟩
theorem Tok.own {W W' : World} {T : List Nat} {P O : List Int} {B e size n : Nat} {v : Value} {xs : List Value} (h : Tok W T P O) (ho : W.ownsRow B e size v n xs) (he : e ≠ 42) (hg : W.grownBy W' v.ownBlock) : Tok W' T P O :=
  h.kept hg (fun k hk => own_ne ho (h.cell k hk) (Ne.symm he))
theorem Tok.blk {W W' : World} {T : List Nat} {P O : List Int} {j t : Nat} {cs : Array Value} {fr : Nat × Nat} (h : Tok W T P O) (hj : W.heap[j]? = some (.cells cs t fr)) (ht : t ≠ 42) (hg : W.grownBy W' (some j)) : Tok W' T P O :=
  h.kept hg (fun k hk e => by
    have hc := h.cell k hk
    injection e with e
    rw [e, hj] at hc
    injection hc with hc
    injection hc with _ h2 _
    exact ht h2)
theorem getD_app_lt {α : Type} (l : List α) (x d : α) (k : Nat) (h : k < l.length) : (l ++ [x]).getD k d = l.getD k d := by
  rw [List.getD_eq_getElem?_getD, List.getElem?_append_left h, ← List.getD_eq_getElem?_getD]
theorem getD_app_eq {α : Type} (l : List α) (x d : α) (k : Nat) (h : k = l.length) : (l ++ [x]).getD k d = x := by
  subst h
  rw [List.getD_eq_getElem?_getD, List.getElem?_append_right (Nat.le_refl _), Nat.sub_self]
  rfl
theorem ptr_app (T : List Nat) (x : Nat) (a : Int) (h : a < T.length) : ptr (T ++ [x]) a = ptr T a := by
  unfold ptr
  split
  · rfl
  · rw [getD_app_lt _ _ _ _ (by omega)]
/-- One token more: a root (-1), or the child of one. -/
theorem Tok.push {W : World} {T : List Nat} {P O : List Int} (h : Tok W T P O) (a : Int) (h0 : -1 ≤ a) (h1 : a < T.length) : Tok (W.alloc (.cells #[.pointer (ptr T a), .int .i64 0] 42)) (T ++ [W.heap.size]) (P ++ [a]) (O ++ [0]) := by
  have hlt : ∀ k, k < T.length → T.getD k 0 < W.heap.size := fun k hk => blk_lt (h.cell k hk)
  have hP := h.lenP
  have hO := h.lenO
  refine ⟨by simp [hP], by simp [hO], fun k hk => ?_, fun k hk => ?_, fun j k hj hk e => ?_⟩
  · rw [List.length_append, List.length_singleton] at hk
    by_cases e : k = T.length
    · rw [getD_app_eq T _ _ k e, getD_app_eq P _ _ k (by omega), getD_app_eq O _ _ k (by omega), ptr_app T _ a h1]
      exact blk_new W _
    · have hk' : k < T.length := by omega
      rw [getD_app_lt T _ _ k hk', getD_app_lt P _ _ k (by omega), getD_app_lt O _ _ k (by omega), ptr_app T _ _ (by have := (h.up k hk').2; omega)]
      exact blk_alloc (h.cell k hk') _
  · rw [List.length_append, List.length_singleton] at hk
    by_cases e : k = T.length
    · rw [getD_app_eq P _ _ k (by omega)]
      exact ⟨h0, by omega⟩
    · rw [getD_app_lt P _ _ k (by omega)]
      exact h.up k (by omega)
  · rw [List.length_append, List.length_singleton] at hj hk
    by_cases ej : j = T.length <;> by_cases ek : k = T.length
    · omega
    · rw [getD_app_eq T _ _ j ej, getD_app_lt T _ _ k (by omega)] at e
      have := hlt k (by omega)
      omega
    · rw [getD_app_lt T _ _ j (by omega), getD_app_eq T _ _ k ek] at e
      have := hlt j (by omega)
      omega
    · rw [getD_app_lt T _ _ j (by omega), getD_app_lt T _ _ k (by omega)] at e
      exact h.inj j k (by omega) (by omega) e
/-- One is called off. -/
theorem Tok.call {W W' : World} {T : List Nat} {P O : List Int} (h : Tok W T P O) (k : Nat) (hk : k < T.length) (c : Int) (hc : W'.heap[T.getD k 0]? = some (.cells #[.pointer (ptr T (P.getD k 0)), .int .i64 c] 42 (0, 0))) (hg : W.grownBy W' (some (T.getD k 0))) : Tok W' T P (O.set k c) := by
  have hO := h.lenO
  refine ⟨h.lenP, by rw [List.length_set]; exact hO, fun j hj => ?_, h.up, h.inj⟩
  by_cases e : j = k
  · subst e
    rw [hc, List.getD_eq_getElem?_getD (l := O.set j c), List.getElem?_set_self (by omega)]
    rfl
  · rw [List.getD_eq_getElem?_getD (l := O.set k c), List.getElem?_set_ne (fun x => e x.symm), ← List.getD_eq_getElem?_getD]
    exact kept_block hg (h.cell j hj) (fun x => e (h.inj j k hj hk (Option.some.inj x)))
/-- The chain of a token. -/
theorem Tok.chain {W : World} {T : List Nat} {P O : List Int} (h : Tok W T P O) : ∀ (m : Nat) (a : Int), -1 ≤ a → a < T.length → a < m → Ch W (ptr T a) (CH P O m a)
  | 0, a, h0, _, hm => by
    have : a < 0 := by omega
    show ptr T a = none
    unfold ptr
    rw [if_pos this]
  | m + 1, a, h0, h1, hm => by
    by_cases hneg : a < 0
    · rw [CH, if_pos hneg]
      show ptr T a = none
      unfold ptr
      rw [if_pos hneg]
    · have hk : a.toNat < T.length := by omega
      have hu := h.up a.toNat hk
      rw [CH, if_neg hneg]
      refine ⟨T.getD a.toNat 0, ptr T (P.getD a.toNat 0), ?_, h.cell a.toNat hk, h.chain m _ hu.1 (by omega) (by omega)⟩
      unfold ptr
      rw [if_neg hneg]
end Go.Proofs.Ytgbdkhdilnogoaa.Hand
