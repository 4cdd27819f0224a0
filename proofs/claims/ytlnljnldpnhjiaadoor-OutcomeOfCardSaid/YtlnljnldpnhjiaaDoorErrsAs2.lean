/- errors.As over chains of faults: what is not found; errors.As itself. -/
import Derived.Test.YtlnljnldpnhjiaaDoorErrsAs
namespace Go.Proofs.YtlnljnldpnhjiaaDoor.Hand
open Go.RowKit Go.Extern.Stop Go.Stop Go.Extern Go.Proofs.YtlnljnldpnhjiaaDoorW.PrintWords Go.Proofs.YtlnljnldpnhjiaaDoorW.PrintLast
set_option linter.unusedVariables false
set_option linter.unusedSimpArgs false
set_option maxRecDepth 1000000 in
set_option maxHeartbeats 4000000 in
/-- errors.as at a number's target: what is wrapped is a text. -/
theorem asE_miss (w : World) (x : Nat) (a t : Nat) (E : Value) (l : List Int) (h : EC w (.text x) E l) :
    Calls Tryd.prog 45 #[E, .iface 55 (.pointer (some ⟨t, 0, none⟩)), .agg #[.pointer (some ⟨1, 55, none⟩), .pointer (some ⟨a, 0, none⟩), .int .u64 150], .iface 84 (.agg #[.pointer (some ⟨1, 22, none⟩)])] w fun e w' => e = .returned (.bool false) ∧ w.grownBy w' none := by
  have H1 := Lib.hid (EC.below h (below_alloc (Below.refl _ _) (.cells #[.pointer (some ⟨1, 55, none⟩), .pointer (some ⟨a, 0, none⟩), .int .u64 150] 75)))
  have G1 := Lib.hid (World.grownBy_alloc w (.cells #[.pointer (some ⟨1, 55, none⟩), .pointer (some ⟨a, 0, none⟩), .int .u64 150] 75) none)
  clear h
  have hT := ec_hT
  have hV := ec_hV
  have hAs := ec_hAs
  have hEV := ec_hEV
  have hS := ec_hS
  have tE := ec_typeOfE
  have tF := ec_typeOfF
  have tS := ec_typeOfS
  have mA := ec_mAssignableTo
  have aE := ec_noAsE
  have aF := ec_noAsF
  have aS := ec_noAsS
  have uE := ec_noUnE
  have uS := ec_noUnS
  have uF := ec_hasUnF
  have vE := ec_noUnsE
  have vS := ec_noUnsS
  have mU := ec_mUnwrap
  have asE := ec_assignEE
  have asF := ec_assignFE
  have asS := ec_assignSE
  go_enter Tryd.func45, Tryd.ntmps45
  go_upto_region 1 with (fail)
  generalize w.alloc _ = w1 at H1 G1 ⊢
  go_wp2_with fail
  go_loopg [0] l.length (fun gk E' wl => ∃ l' : List Int, w1 = wl ∧ l'.length = gk ∧ Hid (EC w1 (.text x) E' l'))
  case atStart => exact ⟨l, rfl, rfl, H1⟩
  case round =>
    obtain ⟨l', rfl, rfl, hc'⟩ := hrel
    rcases l' with _ | ⟨p, l'⟩
    · obtain rfl := hc'.out
      dsimp only [Leaf.val]
      go_wp2
      go_ret
      exact ⟨rfl, G1.out⟩
    · obtain ⟨b, E1, rfl, hb, h1⟩ := hc'.out
      have HC := Lib.hid h1
      have HU := Lib.hid (unwrap_walk b p E1 w1 hb h1.held)
      obtain ⟨u1, v1, rfl⟩ := h1.held
      clear h1 hb
      go_wp2_with (go_at_call 23; (with_reducible refine HU.out.mono ?_); rintro e w' ⟨rfl, rfl⟩)
      go_roundg l'.length
      case measure => simp
      case rel => exact ⟨l', rfl, rfl, HC⟩
set_option maxRecDepth 1000000 in
set_option maxHeartbeats 4000000 in
/-- errors.as at a fault's target: the error is one. -/
theorem asF_hit (w : World) (b : Nat) (a t : Nat) (old : Value) (ha : w.cell? ⟨a, 0, none⟩ = some (.pointer (some ⟨t, 0, none⟩))) (ht : w.heap[t]? = some (.cells #[old] 43 (0, 0))) :
    Calls Tryd.prog 45 #[.iface 43 (.pointer (some ⟨b, 0, none⟩)), .iface 56 (.pointer (some ⟨t, 0, none⟩)), .agg #[.pointer (some ⟨1, 56, none⟩), .pointer (some ⟨a, 0, none⟩), .int .u64 150], .iface 84 (.agg #[.pointer (some ⟨1, 43, none⟩)])] w fun e w' => e = .returned (.bool true) ∧ w'.heap[t]? = some (.cells #[.pointer (some ⟨b, 0, none⟩)] 43 (0, 0)) ∧ w.grownBy w' (some t) := by
  have hb0 := blk_new w (.cells #[.pointer (some ⟨1, 56, none⟩), .pointer (some ⟨a, 0, none⟩), .int .u64 150] 75)
  have ha1 := World.cell?_alloc_lt w (.cells #[.pointer (some ⟨1, 56, none⟩), .pointer (some ⟨a, 0, none⟩), .int .u64 150] 75) ⟨a, 0, none⟩ (cell_lt ha)
  rw [ha] at ha1
  have ht1 := blk_alloc ht (.cells #[.pointer (some ⟨1, 56, none⟩), .pointer (some ⟨a, 0, none⟩), .int .u64 150] 75)
  have G1 := Lib.hid (World.grownBy_alloc w (.cells #[.pointer (some ⟨1, 56, none⟩), .pointer (some ⟨a, 0, none⟩), .int .u64 150] 75) (some t))
  clear ha ht
  have hT := ec_hT
  have hV := ec_hV
  have hAs := ec_hAs
  have hEV := ec_hEV
  have hS := ec_hS
  have tE := ec_typeOfE
  have tF := ec_typeOfF
  have tS := ec_typeOfS
  have mA := ec_mAssignableTo
  have aE := ec_noAsE
  have aF := ec_noAsF
  have aS := ec_noAsS
  have uE := ec_noUnE
  have uS := ec_noUnS
  have uF := ec_hasUnF
  have vE := ec_noUnsE
  have vS := ec_noUnsS
  have mU := ec_mUnwrap
  have asF := ec_assignFF
  have vo := ec_valueOfF
  go_enter Tryd.func45, Tryd.ntmps45
  go_upto_region 1 with (fail)
  generalize w.alloc _ = w1 at hb0 ha1 ht1 G1 ⊢
  generalize w.heap.size = bx at hb0 ⊢
  have k0 : w1.cell? ⟨bx, 0, none⟩ = _ := blk_cell hb0 0
  have k1 : w1.cell? ⟨bx, 1, none⟩ = _ := blk_cell hb0 1
  have k2 : w1.cell? ⟨bx, 2, none⟩ = _ := blk_cell hb0 2
  have HT1 := Lib.hid ht1
  clear hb0 ht1
  have ev := ec_elemVF ⟨a, 0, none⟩ ⟨t, 0, none⟩ w1 ha1
  have st := ec_setF ⟨t, 0, none⟩ ⟨w1.heap.size, 0, none⟩ ⟨b, 0, none⟩ old (w1.alloc (.cells #[.pointer (some ⟨b, 0, none⟩)] 43)) (by rw [World.cell?_alloc_at _ _ _ _ (by simp)]; rfl) (blk_cell (blk_alloc HT1.out _) 0) (blk_frozen (blk_alloc HT1.out _) 0)
  have G2 := Lib.hid (blk_put (blk_alloc HT1.out (.cells #[.pointer (some ⟨b, 0, none⟩)] 43)) 0 (.pointer (some ⟨b, 0, none⟩)) rfl)
  have G3 := Lib.hid ((G1.out.trans (World.grownBy_alloc w1 (.cells #[.pointer (some ⟨b, 0, none⟩)] 43) (some t))).trans (grow_set' (w1.alloc (.cells #[.pointer (some ⟨b, 0, none⟩)] 43)) ⟨t, 0, none⟩ (.pointer (some ⟨b, 0, none⟩))))
  go_wp2
  refine wp_loop_rounds 1 ?_
  rw [rounds_succ]
  go_wp2
  go_ret
  exact ⟨rfl, G2.out, G3.out⟩
set_option maxRecDepth 1000000 in
set_option maxHeartbeats 4000000 in
/-- errors.as at a fault's target: the error is none. -/
theorem asF_miss (w : World) (f : Leaf) (a t : Nat) :
    Calls Tryd.prog 45 #[f.val, .iface 56 (.pointer (some ⟨t, 0, none⟩)), .agg #[.pointer (some ⟨1, 56, none⟩), .pointer (some ⟨a, 0, none⟩), .int .u64 150], .iface 84 (.agg #[.pointer (some ⟨1, 43, none⟩)])] w fun e w' => e = .returned (.bool false) ∧ w.grownBy w' none := by
  have G1 := Lib.hid (World.grownBy_alloc w (.cells #[.pointer (some ⟨1, 56, none⟩), .pointer (some ⟨a, 0, none⟩), .int .u64 150] 75) none)
  have hT := ec_hT
  have hV := ec_hV
  have hAs := ec_hAs
  have hEV := ec_hEV
  have hS := ec_hS
  have tE := ec_typeOfE
  have tF := ec_typeOfF
  have tS := ec_typeOfS
  have mA := ec_mAssignableTo
  have aE := ec_noAsE
  have aF := ec_noAsF
  have aS := ec_noAsS
  have uE := ec_noUnE
  have uS := ec_noUnS
  have uF := ec_hasUnF
  have vE := ec_noUnsE
  have vS := ec_noUnsS
  have mU := ec_mUnwrap
  have asE := ec_assignEF
  have asS := ec_assignSF
  cases f <;> dsimp only [Leaf.val]
  all_goals
    go_enter Tryd.func45, Tryd.ntmps45
    go_upto_region 1 with (fail)
    generalize w.alloc _ = w1 at G1 ⊢
    go_wp2
    refine wp_loop_rounds 1 ?_
    rw [rounds_succ]
    go_wp2
    go_ret
    exact ⟨rfl, G1.out⟩
set_option maxRecDepth 1000000 in
set_option maxHeartbeats 4000000 in
/-- errors.As at a number's target: as errors.as says, behind two new blocks. -/
theorem errorsAsE (w : World) (u : TypeId) (v : Value) (t : Nat) (hg : w.cell? ⟨0, 0, none⟩ = some (.iface 84 (.agg #[.pointer (some ⟨1, 26, none⟩)]))) (ht : t < w.heap.size) (Q : Bool → World → Prop)
    (hcall : ∀ w2, Below w.heap.size w w2 → w2.cell? ⟨w.heap.size, 0, none⟩ = some (.pointer (some ⟨t, 0, none⟩)) → Calls Tryd.prog 45 #[.iface u v, .iface 55 (.pointer (some ⟨t, 0, none⟩)), .agg #[.pointer (some ⟨1, 55, none⟩), .pointer (some ⟨w.heap.size, 0, none⟩), .int .u64 150], .iface 84 (.agg #[.pointer (some ⟨1, 22, none⟩)])] w2 fun e w' => ∃ r, e = .returned (.bool r) ∧ Q r w') :
    Calls Tryd.prog 36 #[.iface u v, .iface 55 (.pointer (some ⟨t, 0, none⟩))] w fun e w' => ∃ r, e = .returned (.bool r) ∧ Q r w' := by
  have hV := ec_hV
  have hTy := ec_hTy
  have hN := ec_hN
  have hK := ec_hK
  have hEl := ec_hEl
  have hIm := ec_hIm
  have mK := ec_mKind
  have mE := ec_mElem
  have mI := ec_mImplements
  have f1 := ec_valueOfTE
  have f2 := ec_typeTE
  have f3 := ec_kindTE
  have f4 := ec_kindE
  have f5 := ec_elemTE
  have f6 := ec_implE
  have hlt := cell_lt hg
  have n8 := ec_isNilTE ⟨w.heap.size, 0, none⟩ ⟨t, 0, none⟩ ((w.alloc (.cells #[.pointer (some ⟨t, 0, none⟩)] 55)).alloc (.cells #[.pointer (some ⟨1, 55, none⟩), .pointer (some ⟨w.heap.size, 0, none⟩), .int .u64 150] 75)) (by simp)
  have hg2 : ((w.alloc (.cells #[.pointer (some ⟨t, 0, none⟩)] 55)).alloc (.cells #[.pointer (some ⟨1, 55, none⟩), .pointer (some ⟨w.heap.size, 0, none⟩), .int .u64 150] 75)).cell? ⟨0, 0, none⟩ = some (.iface 84 (.agg #[.pointer (some ⟨1, 26, none⟩)])) := by
    rw [World.cell?_alloc_lt _ _ ⟨0, 0, none⟩ (by simp), World.cell?_alloc_lt _ _ ⟨0, 0, none⟩ hlt]; exact hg
  have HC := Lib.hid (hcall ((w.alloc (.cells #[.pointer (some ⟨t, 0, none⟩)] 55)).alloc (.cells #[.pointer (some ⟨1, 55, none⟩), .pointer (some ⟨w.heap.size, 0, none⟩), .int .u64 150] 75)) (below_alloc (below_alloc (Below.refl _ _) _) _) (by simp))
  clear hcall hg
  go_enter Tryd.func36, Tryd.ntmps36
  go_wp2_with (go_at_call 45; (with_reducible refine HC.out.mono ?_); rintro e w' ⟨r, rfl, hQ⟩)
  go_ret
  exact ⟨r, rfl, hQ⟩
set_option maxRecDepth 1000000 in
set_option maxHeartbeats 4000000 in
/-- errors.As at a fault's target: as errors.as says, behind two new blocks. -/
theorem errorsAsF (w : World) (u : TypeId) (v : Value) (t : Nat) (hg : w.cell? ⟨0, 0, none⟩ = some (.iface 84 (.agg #[.pointer (some ⟨1, 26, none⟩)]))) (ht : t < w.heap.size) (Q : Bool → World → Prop)
    (hcall : ∀ w2, Below w.heap.size w w2 → w2.cell? ⟨w.heap.size, 0, none⟩ = some (.pointer (some ⟨t, 0, none⟩)) → Calls Tryd.prog 45 #[.iface u v, .iface 56 (.pointer (some ⟨t, 0, none⟩)), .agg #[.pointer (some ⟨1, 56, none⟩), .pointer (some ⟨w.heap.size, 0, none⟩), .int .u64 150], .iface 84 (.agg #[.pointer (some ⟨1, 43, none⟩)])] w2 fun e w' => ∃ r, e = .returned (.bool r) ∧ Q r w') :
    Calls Tryd.prog 36 #[.iface u v, .iface 56 (.pointer (some ⟨t, 0, none⟩))] w fun e w' => ∃ r, e = .returned (.bool r) ∧ Q r w' := by
  have hV := ec_hV
  have hTy := ec_hTy
  have hN := ec_hN
  have hK := ec_hK
  have hEl := ec_hEl
  have hIm := ec_hIm
  have mK := ec_mKind
  have mE := ec_mElem
  have mI := ec_mImplements
  have f1 := ec_valueOfTF
  have f2 := ec_typeTF
  have f3 := ec_kindTF
  have f4 := ec_kindF
  have f5 := ec_elemTF
  have f6 := ec_implF
  have hlt := cell_lt hg
  have n8 := ec_isNilTF ⟨w.heap.size, 0, none⟩ ⟨t, 0, none⟩ ((w.alloc (.cells #[.pointer (some ⟨t, 0, none⟩)] 56)).alloc (.cells #[.pointer (some ⟨1, 56, none⟩), .pointer (some ⟨w.heap.size, 0, none⟩), .int .u64 150] 75)) (by simp)
  have hg2 : ((w.alloc (.cells #[.pointer (some ⟨t, 0, none⟩)] 56)).alloc (.cells #[.pointer (some ⟨1, 56, none⟩), .pointer (some ⟨w.heap.size, 0, none⟩), .int .u64 150] 75)).cell? ⟨0, 0, none⟩ = some (.iface 84 (.agg #[.pointer (some ⟨1, 26, none⟩)])) := by
    rw [World.cell?_alloc_lt _ _ ⟨0, 0, none⟩ (by simp), World.cell?_alloc_lt _ _ ⟨0, 0, none⟩ hlt]; exact hg
  have HC := Lib.hid (hcall ((w.alloc (.cells #[.pointer (some ⟨t, 0, none⟩)] 56)).alloc (.cells #[.pointer (some ⟨1, 56, none⟩), .pointer (some ⟨w.heap.size, 0, none⟩), .int .u64 150] 75)) (below_alloc (below_alloc (Below.refl _ _) _) _) (by simp))
  clear hcall hg
  go_enter Tryd.func36, Tryd.ntmps36
  go_wp2_with (go_at_call 45; (with_reducible refine HC.out.mono ?_); rintro e w' ⟨r, rfl, hQ⟩)
  go_ret
  exact ⟨r, rfl, hQ⟩
end Go.Proofs.YtlnljnldpnhjiaaDoor.Hand
