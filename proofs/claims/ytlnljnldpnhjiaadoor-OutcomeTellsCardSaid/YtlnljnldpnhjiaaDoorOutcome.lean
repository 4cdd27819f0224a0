/- The package outcome, over errors as chains. -/
import Derived.Test.YtlnljnldpnhjiaaDoorFault
namespace Go.Proofs.YtlnljnldpnhjiaaDoor.Hand
open Go.RowKit Go.Extern.Stop Go.Stop Go.Extern Go.Proofs.YtlnljnldpnhjiaaDoorW.PrintWords Go.Proofs.YtlnljnldpnhjiaaDoorW.PrintLast
set_option linter.unusedVariables false
set_option linter.unusedSimpArgs false
def outL : List ByteArray := [(⟨#[]⟩ : ByteArray), (⟨#[116, 97, 107, 101, 110]⟩ : ByteArray), (⟨#[115, 116, 97, 108, 101]⟩ : ByteArray), (⟨#[97, 104, 101, 97, 100]⟩ : ByteArray), (⟨#[99, 114, 111, 119, 100, 101, 100]⟩ : ByteArray), (⟨#[114, 101, 100, 117, 110, 100, 97, 110, 116]⟩ : ByteArray), (⟨#[114, 101, 106, 101, 99, 116, 101, 100]⟩ : ByteArray), (⟨#[102, 101, 110, 99, 101, 100]⟩ : ByteArray), (⟨#[115, 112, 101, 110, 116]⟩ : ByteArray), (⟨#[119, 114, 111, 110, 103]⟩ : ByteArray)]
def outA : Array Value := (outL.map Value.string).toArray
/-- An outcome's name. -/
def outName (k : Int) : ByteArray := if 0 ≤ k ∧ k < 10 then outL.getD k.toNat (⟨#[]⟩ : ByteArray) else (⟨#[]⟩ : ByteArray)
/-- What became of it. -/
def outOf (f : Leaf) (l : List Int) : Int :=
  if f.is 13 = true then (if 1 ∈ l then 2 else 3) else if f.is 14 = true then 4 else if f.is 15 = true then 5 else if f.is 16 = true then 6 else if f.is 12 = true then 7 else if f.is 11 = true then 8 else 9
theorem EC.grown {W W' : World} {f : Leaf} {t T : Nat} {cs : Array Value} (ht : W.heap[t]? = some (.cells cs T (0, 0))) (hT : T ≠ 58) (hg : W.grownBy W' (some t)) : ∀ {l : List Int} {E : Value}, EC W f E l → EC W' f E l
  | [], _, h => h
  | _ :: _, _, ⟨b, E', h1, h2, h3⟩ => ⟨b, E', h1, (hg.block b (blk_lt h2) (fun e => by
      injection e with e
      subst e
      rw [h2] at ht
      injection ht with ht
      injection ht with _ h4 _
      exact hT h4.symm)).trans h2, EC.grown ht hT hg h3⟩
set_option maxRecDepth 100000 in
set_option maxHeartbeats 1000000 in
/-- outcome.low. -/
theorem low_walk (f : Leaf) (E : Value) (l : List Int) (w : World) (hg : w.cell? ⟨0, 0, none⟩ = some (.iface 84 (.agg #[.pointer (some ⟨1, 26, none⟩)]))) (h : EC w f E l) :
    Calls Tryd.prog 41 #[E] w fun e w' => e = .returned (.bool (decide (1 ∈ l))) ∧ Below w.heap.size w w' := by
  have hb := below_alloc (Below.refl w.heap.size w) (.cells #[.pointer none] 43)
  have HE := Lib.hid (h.below hb)
  have HG := Lib.hid hg
  have HBX := Lib.hid (blk_new w (.cells #[.pointer none] 43))
  have HB := Lib.hid hb
  clear h hb hg
  go_enter Tryd.func41, Tryd.ntmps41
  go_upto_region 2 with (fail)
  generalize w.alloc _ = w0 at HE HBX HB ⊢
  obtain ⟨t, ht⟩ : ∃ t, w.heap.size = t := ⟨_, rfl⟩
  rw [ht] at HBX ⊢
  have hwt : w.heap.size ≤ t := by omega
  clear ht
  go_wp2_with fail
  go_loopg [0] l.length (fun gk v0 wr => ∃ (r : List Int) (q : Value), r.length = gk ∧ Hid (EC wr f v0 r) ∧ Hid (wr.heap[t]? = some (.cells #[q] 43 (0, 0))) ∧ Hid ((1 ∈ l) = (1 ∈ r)) ∧ Hid (Below w.heap.size w wr))
  case atStart => exact ⟨l, _, rfl, HE, HBX, Lib.hid rfl, HB⟩
  case round =>
    clear HE HBX HB
    obtain ⟨r, q, rfl, HE, HBX, HM, HB⟩ := hrel
    have hgr := (HB.out.cell (cell_lt HG.out)).trans HG.out
    rcases r with _ | ⟨p, r⟩
    · have HE' : Hid (u0 = f.val) := Lib.hid HE.out
      obtain ⟨u, v, rfl⟩ : ∃ u v, u0 = .iface u v := EC.held HE.out
      have HA := Lib.hid (AsF_leaf wr f t hgr (blk_lt HBX.out))
      rw [← HE'.out] at HA
      clear hgr
      go_wp2_with (go_at_call 36; (with_reducible refine HA.out.mono ?_); rintro e w2 ⟨rfl, h4⟩; have HB4 := Lib.hid (below_step HB.out (grown_below h4)); clear h4)
      go_ret
      exact ⟨by rw [decide_eq_false (by rw [HM.out]; simp)]; rfl, HB4.out⟩
    · obtain ⟨b, E1, rfl, hb, h1⟩ := HE.out
      have HA := Lib.hid (AsF_hit wr b t q hgr HBX.out)
      have HX : Hid (wr.heap[b]? = some (.cells #[.int .i64 p, E1] 58 (0, 0))) := Lib.hid hb
      have HNE : Hid (some b ≠ some t) := Lib.hid (fun e => by
        injection e with e
        have h2 := HBX.out
        rw [← e, hb] at h2
        injection h2 with h2
        injection h2 with _ h4 _
        exact absurd h4 (by decide))
      have HE1 := Lib.hid h1
      clear hb h1 hgr
      by_cases hp : p = 1
      · subst hp
        go_wp2_with (go_at_call 36; (with_reducible refine HA.out.mono ?_); rintro e w2 ⟨rfl, h3, h4⟩; have k0 := blk_cell h3 0; have hx := (h4.block b (blk_lt HX.out) HNE.out).trans HX.out; have k1 := blk_cell hx 0; have k2 := blk_cell hx 1; have HB4 := Lib.hid (HB.out.grown h4 (below_size HB.out) (fun k hk => by rw [← Option.some.inj hk]; exact hwt)); clear h3 h4 hx)
        go_ret
        exact ⟨by rw [decide_eq_true (by rw [HM.out]; simp)]; rfl, HB4.out⟩
      · have e1 : (p == 1) = false := by simpa using hp
        have HP := Lib.hid hp
        clear hp
        obtain ⟨u1, v1, rfl⟩ := EC.held HE1.out
        go_wp2_with (go_at_call 36; (with_reducible refine HA.out.mono ?_); rintro e w2 ⟨rfl, h3, h4⟩; have k0 := blk_cell h3 0; have hx := (h4.block b (blk_lt HX.out) HNE.out).trans HX.out; have k1 := blk_cell hx 0; have k2 := blk_cell hx 1; have HB4 := Lib.hid (HB.out.grown h4 (below_size HB.out) (fun k hk => by rw [← Option.some.inj hk]; exact hwt)); have HE4 := Lib.hid (EC.grown HBX.out (by decide) h4 HE1.out); have HBX4 := Lib.hid h3; clear h3 h4 hx)
        go_roundg r.length
        case measure => simp
        case rel =>
          exact ⟨r, _, rfl, HE4, HBX4, Lib.hid (by rw [HM.out]; exact propext ⟨fun h => by rcases List.mem_cons.1 h with h | h; exact absurd h.symm HP.out; exact h, fun h => List.mem_cons_of_mem _ h⟩), HB4⟩
theorem of28_none (w : World) : Calls Tryd.prog 28 #[.nilIface] w fun e w' => e = .returned (.int .i64 1) ∧ w = w' := by
  go_enter Tryd.func28, Tryd.ntmps28
  go_wp2
  go_ret
  exact ⟨rfl, rfl⟩
set_option maxRecDepth 100000 in
/-- outcome.Of of an error that is one. -/
theorem of28_walk (f : Leaf) (E : Value) (l : List Int) (w : World) (hg : w.cell? ⟨0, 0, none⟩ = some (.iface 84 (.agg #[.pointer (some ⟨1, 26, none⟩)]))) (h : EC w f E l) :
    Calls Tryd.prog 28 #[E] w fun e w' => e = .returned (.int .i64 (outOf f l)) ∧ Below w.heap.size w w' := by
  have HI := Lib.hid (fun c => errorsIs_walk w f c E l h)
  have HL := Lib.hid (low_walk f E l w hg h)
  obtain ⟨u, v, rfl⟩ := h.held
  clear h hg
  obtain ⟨R, hR⟩ : ∃ R, outOf f l = R := ⟨_, rfl⟩
  rw [hR]
  cases f with
  | text a =>
    have hR2 : R = 9 := by rw [← hR]; rfl
    subst hR2
    have HI2 : Hid (∀ c, Calls Tryd.prog 18 #[.iface u v, .iface 22 (.int .i64 c)] w fun e w' => e = .returned (.bool false) ∧ w = w') := Lib.hid (fun c => HI.out c)
    clear hR
    go_enter Tryd.func28, Tryd.ntmps28
    go_wp2_with (go_at_call 18; (with_reducible refine (HI2.out _).mono ?_); rintro e w2 ⟨rfl, rfl⟩)
    go_ret
    exact ⟨rfl, Below.refl _ _⟩
  | code d =>
    have HI2 : Hid (∀ c, Calls Tryd.prog 18 #[.iface u v, .iface 22 (.int .i64 c)] w fun e w' => e = .returned (.bool (d == c)) ∧ w = w') := Lib.hid (fun c => HI.out c)
    by_cases h13 : d = 13
    · subst h13
      by_cases hm : 1 ∈ l
      · have hR2 : R = 2 := by rw [← hR, outOf, if_pos (by rfl), if_pos hm]
        subst hR2
        have hd : decide (1 ∈ l) = true := decide_eq_true hm
        rw [hd] at HL
        clear hR hm hd
        go_enter Tryd.func28, Tryd.ntmps28
        go_wp2_with (first
          | (go_at_call 18; (with_reducible refine (HI2.out _).mono ?_); rintro e w2 ⟨rfl, rfl⟩)
          | (go_at_call 41; (with_reducible refine HL.out.mono ?_); rintro e w2 ⟨rfl, hb⟩; have HB := Lib.hid hb; clear hb))
        go_ret
        exact ⟨rfl, HB.out⟩
      · have hR2 : R = 3 := by rw [← hR, outOf, if_pos (by rfl), if_neg hm]
        subst hR2
        have hd : decide (1 ∈ l) = false := decide_eq_false hm
        rw [hd] at HL
        clear hR hm hd
        go_enter Tryd.func28, Tryd.ntmps28
        go_wp2_with (first
          | (go_at_call 18; (with_reducible refine (HI2.out _).mono ?_); rintro e w2 ⟨rfl, rfl⟩)
          | (go_at_call 41; (with_reducible refine HL.out.mono ?_); rintro e w2 ⟨rfl, hb⟩; have HB := Lib.hid hb; clear hb))
        go_ret
        exact ⟨rfl, HB.out⟩
    · by_cases h14 : d = 14
      · subst h14
        have hR2 : R = 4 := by rw [← hR]; rfl
        subst hR2
        clear hR h13
        go_enter Tryd.func28, Tryd.ntmps28
        go_wp2_with (go_at_call 18; (with_reducible refine (HI2.out _).mono ?_); rintro e w2 ⟨rfl, rfl⟩)
        go_ret
        exact ⟨rfl, Below.refl _ _⟩
      · by_cases h15 : d = 15
        · subst h15
          have hR2 : R = 5 := by rw [← hR]; rfl
          subst hR2
          clear hR h13 h14
          go_enter Tryd.func28, Tryd.ntmps28
          go_wp2_with (go_at_call 18; (with_reducible refine (HI2.out _).mono ?_); rintro e w2 ⟨rfl, rfl⟩)
          go_ret
          exact ⟨rfl, Below.refl _ _⟩
        · by_cases h16 : d = 16
          · subst h16
            have hR2 : R = 6 := by rw [← hR]; rfl
            subst hR2
            clear hR h13 h14 h15
            go_enter Tryd.func28, Tryd.ntmps28
            go_wp2_with (go_at_call 18; (with_reducible refine (HI2.out _).mono ?_); rintro e w2 ⟨rfl, rfl⟩)
            go_ret
            exact ⟨rfl, Below.refl _ _⟩
          · by_cases h12 : d = 12
            · subst h12
              have hR2 : R = 7 := by rw [← hR]; rfl
              subst hR2
              clear hR h13 h14 h15 h16
              go_enter Tryd.func28, Tryd.ntmps28
              go_wp2_with (go_at_call 18; (with_reducible refine (HI2.out _).mono ?_); rintro e w2 ⟨rfl, rfl⟩)
              go_ret
              exact ⟨rfl, Below.refl _ _⟩
            · by_cases h11 : d = 11
              · subst h11
                have hR2 : R = 8 := by rw [← hR]; rfl
                subst hR2
                clear hR h13 h14 h15 h16 h12
                go_enter Tryd.func28, Tryd.ntmps28
                go_wp2_with (go_at_call 18; (with_reducible refine (HI2.out _).mono ?_); rintro e w2 ⟨rfl, rfl⟩)
                go_ret
                exact ⟨rfl, Below.refl _ _⟩
              · have b13 : (d == 13) = false := by simpa using h13
                have b14 : (d == 14) = false := by simpa using h14
                have b15 : (d == 15) = false := by simpa using h15
                have b16 : (d == 16) = false := by simpa using h16
                have b12 : (d == 12) = false := by simpa using h12
                have b11 : (d == 11) = false := by simpa using h11
                have hR2 : R = 9 := by simp [← hR, outOf, Leaf.is, h13, h14, h15, h16, h12, h11]
                subst hR2
                clear hR h13 h14 h15 h16 h12 h11
                go_enter Tryd.func28, Tryd.ntmps28
                go_wp2_with (go_at_call 18; (with_reducible refine (HI2.out _).mono ?_); rintro e w2 ⟨rfl, rfl⟩)
                go_ret
                exact ⟨rfl, Below.refl _ _⟩
/-- outcome.Name. -/
theorem oname_walk (c : Int) (w : World) : Calls Tryd.prog 34 #[.int .i64 c] w fun e w' => e = .returned (.string (outName c)) ∧ Below w.heap.size w w' := by
  by_cases h : 0 ≤ c ∧ c < 10
  · obtain ⟨k, rfl⟩ : ∃ k : Nat, c = k := ⟨c.toNat, by omega⟩
    have hk : k < 10 := by omega
    have ht : outL[k]? = some (outName k) := by
      unfold outName
      rw [if_pos h, Int.toNat_natCast, List.getD_eq_getElem?_getD, List.getElem?_eq_getElem (show k < outL.length from hk)]
      rfl
    generalize outName k = x at ht ⊢
    have HT := Lib.hid ht
    have h0 : (0 : Int) ≤ (k : Int) := h.1
    have h1 : (k : Int) < 10 := h.2
    clear ht h
    go_enter Tryd.func34, Tryd.ntmps34
    go_upto_region 1 with (fail)
    go_step
    refine wpList_build_to rfl 71 _ rfl outA (by kernel_rfl) ?_
    refine wpList_alloc_to rfl 71 rfl (Array.replicate 10 (.string ⟨#[]⟩)) 10 (by kernel_rfl) ?_
    refine wpList_store_row rfl 71 _ _ rfl w.heap.size outA rfl rfl 71 _ (heap_alloc_new w _) (by kernel_rfl) (by kernel_rfl) (by kernel_rfl) ?_
    rw [World.setRow_alloc_new]
    have F := Lib.hid (below_alloc (Below.refl w.heap.size w) (.cells outA 71))
    have S := Lib.hid (heap_alloc_new w (.cells outA 71))
    have hc : (w.alloc (.cells outA 71)).cell? ⟨w.heap.size, k, none⟩ = some (.string x) := by
      rw [cell_of_row _ _ k _ _ _ S.out]
      simp only [outA, List.getElem?_toArray, List.getElem?_map, HT.out, Option.map_some]
    clear S
    generalize w.alloc _ = w1 at hc F ⊢
    generalize w.heap.size = g at hc ⊢
    go_wp2
    go_ret
    exact ⟨rfl, F.out⟩
  · have hx : outName c = (⟨#[]⟩ : ByteArray) := by unfold outName; rw [if_neg h]
    rw [hx]
    clear hx
    go_enter Tryd.func34, Tryd.ntmps34
    go_upto_region 1 with (fail)
    go_step
    refine wpList_build_to rfl 71 _ rfl outA (by kernel_rfl) ?_
    refine wpList_alloc_to rfl 71 rfl (Array.replicate 10 (.string ⟨#[]⟩)) 10 (by kernel_rfl) ?_
    refine wpList_store_row rfl 71 _ _ rfl w.heap.size outA rfl rfl 71 _ (heap_alloc_new w _) (by kernel_rfl) (by kernel_rfl) (by kernel_rfl) ?_
    rw [World.setRow_alloc_new]
    have F := Lib.hid (below_alloc (Below.refl w.heap.size w) (.cells outA 71))
    generalize w.alloc _ = w1 at F ⊢
    generalize w.heap.size = g at ⊢
    by_cases hneg : c < 0
    · clear h
      go_wp2
      go_ret
      exact ⟨rfl, F.out⟩
    · have hge : (10 : Int) ≤ c := by omega
      clear h
      go_wp2
      go_ret
      exact ⟨rfl, F.out⟩
theorem lit4_C (w : World) (a b c d : Int) : Kd.C (Kd.int .i64) (w.alloc (.cells #[.int .i64 a, .int .i64 b, .int .i64 c, .int .i64 d] 3)) (some ⟨w.heap.size, 0, none⟩) 4 [a, b, c, d] := by
  have h := World.ownsRow_lit (base := w.heap.size) (e := 3) (size := 1) w #[.int .i64 a, .int .i64 b, .int .i64 c, .int .i64 d] 4 (Nat.le_refl _) (by decide) (by simp)
  exact (Kd.R_reads' (Kd.R_of_own (h1 := fun _ => rfl) (enc := Value.int .i64) (xs := [a, b, c, d]) (ok := fun _ => True) h (fun _ _ => trivial))).2.2
theorem awake28_walk (w : World) (hg : w.cell? ⟨0, 0, none⟩ = some (.iface 84 (.agg #[.pointer (some ⟨1, 26, none⟩)]))) :
    Calls Tryd.prog 27 #[] w fun e w' => e = .returned (.bool true) ∧ Below w.heap.size w w' := by
  have hb := below_alloc (Below.refl w.heap.size w) (.cells #[.int .i64 1, .int .i64 3, .int .i64 6, .int .i64 7] 3)
  have HO : Hid (Calls Tryd.prog 10 #[.int .i64 13, .slice (some ⟨w.heap.size, 0, none⟩) 4 4] (w.alloc (.cells #[.int .i64 1, .int .i64 3, .int .i64 6, .int .i64 7] 3)) fun e w' => ∃ E, e = .returned E ∧ EC w' (.code 13) E [7, 6, 3, 1] ∧ Below (w.alloc (.cells #[.int .i64 1, .int .i64 3, .int .i64 6, .int .i64 7] 3)).heap.size (w.alloc (.cells #[.int .i64 1, .int .i64 3, .int .i64 6, .int .i64 7] 3)) w') := Lib.hid (of_walk 13 (by decide) (some ⟨w.heap.size, 0, none⟩) 4 [1, 3, 6, 7] _ (lit4_C w 1 3 6 7) (by decide))
  have HT : Hid (∀ (w1 : World) (E : Value), EC w1 (.code 13) E [7, 6, 3, 1] → Below w.heap.size w w1 → Calls Tryd.prog 28 #[E] w1 fun e w' => e = .returned (.int .i64 2) ∧ Below w1.heap.size w1 w') := Lib.hid (fun w1 E hE hB => of28_walk (.code 13) E [7, 6, 3, 1] w1 ((hB.cell (cell_lt hg)).trans hg) hE)
  have HN : Hid (∀ w1 : World, Calls Tryd.prog 34 #[.int .i64 2] w1 fun e w' => e = .returned (.string (⟨#[115, 116, 97, 108, 101]⟩ : ByteArray)) ∧ Below w1.heap.size w1 w') := Lib.hid (fun w1 => oname_walk 2 w1)
  have HB := Lib.hid hb
  clear hb hg
  go_enter Tryd.func27, Tryd.ntmps27
  go_wp2_with (first
    | (go_at_call 10; (with_reducible refine HO.out.mono ?_); rintro e w1 ⟨E, rfl, hE, hb1⟩; have HE := Lib.hid hE; have HB1 := Lib.hid (below_step HB.out hb1); clear hE hb1)
    | (go_at_call 28; (with_reducible refine (HT.out _ _ HE.out HB1.out).mono ?_); rintro e w2 ⟨rfl, hb2⟩; have HB2 := Lib.hid (below_step HB1.out hb2); clear hb2)
    | (go_at_call 34; (with_reducible refine (HN.out _).mono ?_); rintro e w3 ⟨rfl, hb3⟩; have HB3 := Lib.hid (below_step HB2.out hb3); clear hb3))
  go_ret
  exact ⟨rfl, HB3.out⟩
end Go.Proofs.YtlnljnldpnhjiaaDoor.Hand
