/- The example of the page answers true. -/
import Derived.Test.YtndfpidilodmgaaShaAbc
set_option linter.unusedSimpArgs false
set_option linter.unusedVariables false
namespace Go.Proofs.Ytndfpidilodmgaa.Hand
open Go.RowKit Go.Proofs.YtndfpidilodmgaaW.PrintWords Go.Proofs.YtndfpidilodmgaaW.PrintLast
/-- Of, of a slice of texts. -/
theorem of_slice (bk o c : Nat) (xs : List ByteArray) (s : ByteArray) (w : World) (hcells : ∀ (j : Nat) x, xs[j]? = some x → w.cell? ⟨bk, o + j, none⟩ = some (.string x)) (hbk : bk < w.heap.size) (hN : xs.length ≤ 1000000) (hcap : xs.length ≤ c) (hs : (Lib.join (xs.map (·.data.toList)) []).toArray = s.data) (hsz : s.size ≤ 1000000) :
    Calls Try.prog 9 #[.slice (some ⟨bk, o, none⟩) xs.length c] w fun e w' => e = .returned (.agg (rowb (ofB s))) ∧ Below w.heap.size w w' := by
  refine of_walk _ s w hsz (fun W hW => ?_)
  have hl : (Lib.join (xs.map (·.data.toList)) []).length = s.size := by
    show _ = s.data.size
    rw [← hs, List.size_toArray]
  have h := Try.strings_Join bk o c xs ⟨#[]⟩ W (fun j x hx => by
    exact (hW.cell hbk).trans (hcells j x hx)) (Nat.lt_of_lt_of_le hbk (below_size hW)) (by omega) hcap (by show (Lib.join _ []).length ≤ _; omega)
  refine h.mono ?_
  rintro e w' ⟨rfl, hb⟩
  refine ⟨?_, hb⟩
  have : (⟨(Lib.join (xs.map (·.data.toList)) (⟨#[]⟩ : ByteArray).data.toList).toArray⟩ : ByteArray) = s := by
    show (⟨(Lib.join (xs.map (·.data.toList)) []).toArray⟩ : ByteArray) = s
    rw [hs]
  rw [this]
theorem wpList_load_row_wanted {P : Program} {ops : Array Oper} {rest : List Oper} {o : Oper} {a : Act} {w : World} {Q : Exit → Act → World → Prop} (ty : TypeId) (x : Operand) (ho : o.op = .load ty x) (hw : Region.wanted o (yielded ops a.tmps) = true)
    (g : Nat) (hx : a.eval x = .pointer (some ⟨g, 0, none⟩)) (t : TypeId) (cs : Array Value) (fr : Nat × Nat) (d : TypeDesc) (hg : w.heap[g]? = some (.cells cs t fr))
    (hu : P.underlying ty = some d) (hd : (match d with | .struct _ | .array _ _ => true | _ => false) = true) (hi : (P.info? ty).map (·.size) = some cs.size)
    (h : wpList P ops Q rest (a.put o.dst (.agg cs)) w) : wpList P ops Q (o :: rest) a w := by
  refine wpList_step (fun K hK => ?_)
  rw [if_pos hw]
  exact wp_load_row ty x ho g hx t cs fr d hg hu hd hi (hK _ _ h)
set_option maxRecDepth 100000 in
set_option maxHeartbeats 1600000 in
theorem awake_walk (w : World) : Calls Try.prog 7 #[] w fun e w' => e = .returned (.bool true) ∧ Below w.heap.size w w' := by
  have N1 := Lib.hid (blk_new w (.cells #[.string ⟨#[97, 98, 99]⟩] 9))
  have F1 := Lib.hid (below_alloc (Below.refl w.heap.size w) (.cells #[.string ⟨#[97, 98, 99]⟩] 9))
  go_enter Try.func7, Try.ntmps7
  go_upto_region 1 with (fail)
  go_step
  iterate 5 go_step
  have hOf := of_slice w.heap.size 0 1 [⟨#[97, 98, 99]⟩] ⟨#[97, 98, 99]⟩ (w.alloc (.cells #[.string ⟨#[97, 98, 99]⟩] 9)) (fun j x hx => by
    match j, hx with
    | 0, hx =>
      injection hx with hx
      subst hx
      exact blk_cell N1.out 0) (blk_lt N1.out) (by decide) (by decide) rfl (by decide)
  rw [abc_sum, show ([⟨#[97, 98, 99]⟩] : List ByteArray).length = 1 from rfl] at hOf
  with_reducible refine hOf.mono ?_
  rintro e w2 ⟨rfl, hb⟩
  have F2 := Lib.hid (below_step F1.out hb)
  clear N1 F1 hb hOf
  dsimp only
  go_step
  refine wpList_alloc_to rfl 27 rfl (rowb Z32) 32 (by kernel_rfl) ?_
  have S2 := Lib.hid (blk_new w2 (.cells (rowb Z32) 27))
  have F3 := Lib.hid (below_alloc F2.out (.cells (rowb Z32) 27))
  have hg0 : w.heap.size ≤ w2.heap.size := below_size F2.out
  generalize w2.alloc _ = w3 at S2 F3 ⊢
  generalize w2.heap.size = g at S2 hg0 ⊢
  clear F2
  have hi32 : (Try.prog.info? 27).map (·.size) = some 32 := by kernel_rfl
  have hsz : (rowb HA).size = 32 := rfl
  obtain ⟨RA, hRA⟩ : ∃ R, rowb HA = R := ⟨_, rfl⟩
  have one := rowb_one HA
  refine wpList_store_row rfl 27 _ _ rfl g (rowb HA) rfl rfl 27 _ S2.out hi32 rfl one ?_
  have S4 := Lib.hid (setRow_heap w3 g _ (rowb HA) 27 (0, 0) S2.out)
  have F4 := Lib.hid (below_setRow F3.out hg0 (rowb HA))
  clear S2 F3
  generalize w3.setRow _ _ = w4 at S4 F4 ⊢
  have k0 : w4.cell? ⟨g, 0, none⟩ = some (.int .u8 186) := blk_cell S4.out 0
  have k1 : w4.cell? ⟨g, 1, none⟩ = some (.int .u8 120) := blk_cell S4.out 1
  have k2 : w4.cell? ⟨g, 2, none⟩ = some (.int .u8 22) := blk_cell S4.out 2
  have k3 : w4.cell? ⟨g, 3, none⟩ = some (.int .u8 191) := blk_cell S4.out 3
  simp only [Act.put, List.setIfInBounds_toArray, List.set_cons_zero, List.set_cons_succ]
  go_upto_region 2 with (fail)
  go_step
  iterate 40 go_step
  repeat (first | refine wpList_load_row_wanted 27 (.tmp 1) rfl (by rfl) g rfl 27 (rowb HA) (0, 0) _ S4.out Try.underlying27 rfl hi32 ?_ | go_step)
  have hHex := hex_walk HA rfl (by decide) w4
  rw [hRA] at hHex
  have hhs : (strOfNums (hexL HA 32)).size = 64 := by
    show (strOfNums (hexL HA 32)).data.size = _
    rw [strOfNums, List.size_toArray, List.length_map, hexL_len]
  obtain ⟨st, hst⟩ : ∃ x, strOfNums (hexL HA 32) = x := ⟨_, rfl⟩
  rw [hst] at hHex hhs
  clear hst k0 k1 k2 k3
  with_reducible refine hHex.mono ?_
  rintro e w5 ⟨rfl, hb⟩
  have F5 := Lib.hid (below_step F4.out hb)
  clear hHex hb S4 F4
  have hhi : (st.size : Int) = 64 := by omega
  dsimp only
  go_step
  go_wp2
  go_ret
  exact ⟨rfl, F5.out⟩
end Go.Proofs.Ytndfpidilodmgaa.Hand
