import Derived.Test.YtgbdkhdilnogoaaTokC
import Derived.Laws.MakeOwn
namespace Go.Proofs.Ytgbdkhdilnogoaa.Hand
open Go.RowKit Go.Proofs.YtgbdkhdilnogoaaW.PrintWords Go.Proofs.YtgbdkhdilnogoaaW.PrintLast
def tptrs (T : List Nat) : List Value := T.map fun b => .pointer (some ⟨b, 0, none⟩)
theorem grow_set (W : World) (p : Addr) (v : Value) : W.grownBy (W.setCell p v) (some p.block) :=
  ⟨rfl, rfl, rfl, by rw [World.size_setCell]; exact Nat.le_refl _, fun k _ hk => Below.heap_setCell W p v k (fun e => hk (by rw [e]))⟩
/-- Both forests, each part with lists of its own (while one more is being put): the tokens T, P, O; the row of pointers Ta; the document's rows Pa, Oa. -/
structure G (w0 W : World) (f : Nat) (v3 vP vO : Value) (T : List Nat) (P O : List Int) (Ta : List Nat) (Pa Oa : List Int) : Prop where
  tok : Tok W T P O
  all : W.ownsRow w0.heap.size 24 1 v3 Ta.length (tptrs Ta)
  box : W.heap[f]? = some (.cells #[vP, vO] 32 (0, 0))
  rowP : W.ownsRow w0.heap.size 3 1 vP Pa.length (nums .i64 Pa)
  rowO : W.ownsRow w0.heap.size 29 1 vO Oa.length (nums .i64 Oa)
  low : w0.heap.size ≤ f
  toks : ∀ k, k < T.length → w0.heap.size ≤ T.getD k 0
  bel : Below w0.heap.size w0 W
section
variable {w0 W W' : World} {f : Nat} {v3 vP vO : Value} {T Ta : List Nat} {P O Pa Oa : List Int}
theorem G.alloc (h : G w0 W f v3 vP vO T P O Ta Pa Oa) (o : Obj) : G w0 (W.alloc o) f v3 vP vO T P O Ta Pa Oa :=
  ⟨h.tok.kept (World.grownBy_alloc W o none) (fun k hk => by simp), h.all.alloc o, blk_alloc h.box o, h.rowP.alloc o, h.rowO.alloc o, h.low, h.toks, below_alloc h.bel o⟩
theorem G.push (h : G w0 W f v3 vP vO T P O Ta Pa Oa) (a : Int) (h0 : -1 ≤ a) (h1 : a < T.length) : G w0 (W.alloc (.cells #[.pointer (ptr T a), .int .i64 0] 42)) f v3 vP vO (T ++ [W.heap.size]) (P ++ [a]) (O ++ [0]) Ta Pa Oa := by
  have g := h.alloc (.cells #[.pointer (ptr T a), .int .i64 0] 42)
  refine ⟨h.tok.push a h0 h1, g.all, g.box, g.rowP, g.rowO, h.low, fun k hk => ?_, g.bel⟩
  rw [List.length_append, List.length_singleton] at hk
  by_cases e : k = T.length
  · rw [getD_app_eq T _ _ k e]
    exact below_size h.bel
  · rw [getD_app_lt T _ _ k (by omega)]
    exact h.toks k (by omega)
/-- The row of pointers has grown. -/
theorem G.app_all (h : G w0 W f v3 vP vO T P O Ta Pa Oa) {v3' : Value} {x : Nat} (ho : W'.ownsRow w0.heap.size 24 1 v3' (Ta.length + 1) (tptrs Ta ++ [.pointer (some ⟨x, 0, none⟩)])) (hg : W.grownBy W' v3.ownBlock) : G w0 W' f v3' vP vO T P O (Ta ++ [x]) Pa Oa := by
  refine ⟨h.tok.own h.all (by decide) hg, ?_, kept_block hg h.box (own_ne h.all h.box (by decide)), h.rowP.kept hg (own_own h.rowP h.all (by decide)), h.rowO.kept hg (own_own h.rowO h.all (by decide)), h.low, h.toks, h.bel.grown hg (below_size h.bel) (fun k hk => (h.all.lt k hk).1)⟩
  rw [List.length_append, List.length_singleton, tptrs, List.map_append]
  exact ho
/-- The document's row of parents has grown, and is stored. -/
theorem G.app_P (h : G w0 W f v3 vP vO T P O Ta Pa Oa) {vP' : Value} {x : Int} (ho : W'.ownsRow w0.heap.size 3 1 vP' (Pa.length + 1) (nums .i64 Pa ++ [.int .i64 x])) (hg : W.grownBy W' vP.ownBlock) : G w0 (W'.setCell ⟨f, 0, none⟩ vP') f v3 vP' vO T P O Ta (Pa ++ [x]) Oa := by
  have bx : W'.heap[f]? = some (.cells #[vP, vO] 32 (0, 0)) := kept_block hg h.box (own_ne h.rowP h.box (by decide))
  have bl : Below w0.heap.size w0 W' := h.bel.grown hg (below_size h.bel) (fun k hk => (h.rowP.lt k hk).1)
  have hs := grow_set W' ⟨f, 0, none⟩ vP'
  have tk : Tok W' T P O := h.tok.own h.rowP (by decide) hg
  have ra : W'.ownsRow w0.heap.size 24 1 v3 Ta.length (tptrs Ta) := h.all.kept hg (own_own h.all h.rowP (by decide))
  have ro : W'.ownsRow w0.heap.size 29 1 vO Oa.length (nums .i64 Oa) := h.rowO.kept hg (own_own h.rowO h.rowP (by decide))
  refine ⟨tk.blk bx (by decide) hs, ra.kept hs (own_blk ra bx (by decide)), blk_put bx 0 vP' rfl, ?_, ro.kept hs (own_blk ro bx (by decide)), h.low, h.toks, below_set bl h.low⟩
  rw [List.length_append, List.length_singleton, nums, List.map_append]
  exact ho.kept hs (own_blk ho bx (by decide))
/-- The document's row of reasons has grown, and is stored. -/
theorem G.app_O (h : G w0 W f v3 vP vO T P O Ta Pa Oa) {vO' : Value} {x : Int} (ho : W'.ownsRow w0.heap.size 29 1 vO' (Oa.length + 1) (nums .i64 Oa ++ [.int .i64 x])) (hg : W.grownBy W' vO.ownBlock) : G w0 (W'.setCell ⟨f, 1, none⟩ vO') f v3 vP vO' T P O Ta Pa (Oa ++ [x]) := by
  have bx : W'.heap[f]? = some (.cells #[vP, vO] 32 (0, 0)) := kept_block hg h.box (own_ne h.rowO h.box (by decide))
  have bl : Below w0.heap.size w0 W' := h.bel.grown hg (below_size h.bel) (fun k hk => (h.rowO.lt k hk).1)
  have hs := grow_set W' ⟨f, 1, none⟩ vO'
  have tk : Tok W' T P O := h.tok.own h.rowO (by decide) hg
  have ra : W'.ownsRow w0.heap.size 24 1 v3 Ta.length (tptrs Ta) := h.all.kept hg (own_own h.all h.rowO (by decide))
  have rp : W'.ownsRow w0.heap.size 3 1 vP Pa.length (nums .i64 Pa) := h.rowP.kept hg (own_own h.rowP h.rowO (by decide))
  refine ⟨tk.blk bx (by decide) hs, ra.kept hs (own_blk ra bx (by decide)), blk_put bx 1 vO' rfl, rp.kept hs (own_blk rp bx (by decide)), ?_, h.low, h.toks, below_set bl h.low⟩
  rw [List.length_append, List.length_singleton, nums, List.map_append]
  exact ho.kept hs (own_blk ho bx (by decide))
/-- One is called off. -/
theorem G.call (h : G w0 W f v3 vP vO T P O Ta Pa Oa) (k : Nat) (hk : k < T.length) (c : Int) (hc : W'.heap[T.getD k 0]? = some (.cells #[.pointer (ptr T (P.getD k 0)), .int .i64 c] 42 (0, 0))) (hg : W.grownBy W' (some (T.getD k 0))) : G w0 W' f v3 vP vO T P (O.set k c) Ta Pa Oa :=
  ⟨h.tok.call k hk c hc hg, h.all.kept hg (own_blk h.all (h.tok.cell k hk) (by decide)), kept_block hg h.box (fun e => by
    have hx := h.tok.cell k hk
    injection e with e
    rw [← e, h.box] at hx
    injection hx with hx
    injection hx with _ h2 _
    exact absurd h2 (by decide)), h.rowP.kept hg (own_blk h.rowP (h.tok.cell k hk) (by decide)), h.rowO.kept hg (own_blk h.rowO (h.tok.cell k hk) (by decide)), h.low, h.toks, h.bel.grown hg (below_size h.bel) (fun j hj => by have := h.toks k hk; injection hj with hj; omega)⟩
end
end Go.Proofs.Ytgbdkhdilnogoaa.Hand
