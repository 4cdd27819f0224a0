/- FaultOthers: the walk of the law. -/
import Derived.Test.YtlnljnldpnhjiaaDoorFaultPure
namespace Go.Proofs.YtlnljnldpnhjiaaDoor.Hand
open Go.RowKit Go.Proofs.YtlnljnldpnhjiaaDoor.PFaultKeeps Go.Proofs.YtlnljnldpnhjiaaDoorW.PrintWords Go.Proofs.YtlnljnldpnhjiaaDoorW.PrintLast
set_option linter.unusedVariables false
set_option linter.unusedSimpArgs false
theorem unwrap_none (w : World) : Calls Tryd.prog 23 #[.pointer none] w fun e w' => e = .returned .nilIface ∧ w = w' := by
  go_enter Tryd.func23, Tryd.ntmps23
  go_wp2
  go_ret
  exact ⟨rfl, rfl⟩
theorem error_none (w : World) : Calls Tryd.prog 24 #[.pointer none] w fun e w' => e = .returned (.string (⟨#[]⟩ : ByteArray)) ∧ w = w' := by
  go_enter Tryd.func24, Tryd.ntmps24
  go_wp2
  go_ret
  exact ⟨rfl, rfl⟩
theorem cell_list {w : World} {A : Option Addr} {l : List Int} (hr : Kd.C (Kd.int .i64) w A l.length l) (k : Nat) (h : k < l.length) : ∃ ad, A = some ad ∧ w.cell? (ad.add k) = some (.int .i64 (l.getD k 0)) := by
  obtain ⟨ad, c0, rfl, hcl, hK, hcc⟩ := Kd.C_get hr 0 k (by omega) (by omega)
  have hK' : c0 = [.int .i64 (l.getD k 0)] := hK
  subst hK'
  exact ⟨ad, rfl, by have := hcc 0 _ rfl; simpa [Kd.int, Kd.scalar] using this⟩
theorem take_next (l : List Int) (k : Nat) (h : k < l.length) : l.take (k + 1) = l.take k ++ [l.getD k 0] := by
  rw [List.take_succ_eq_append_getElem h, List.getD_eq_getElem?_getD, List.getElem?_eq_getElem h]; rfl
set_option maxRecDepth 100000 in
set_option maxHeartbeats 1000000 in
theorem FaultOthers_walk (s : ByteArray) (A : Option Addr) (c : Nat) (l : List Int) (p : Int) (w : World) (hg : w.cell? ⟨0, 0, none⟩ = some (.iface 84 (.agg #[.pointer (some ⟨1, 26, none⟩)])))
    (hr : Kd.C (Kd.int .i64) w A l.length l) (hc : l.length ≤ c) : Calls Tryd.prog 5 #[.string s, .slice A l.length c, .int .i64 p] w fun e w' => e = .returned (.bool true) ∧ Below w.heap.size w w' := by
  have HA : Hid (∀ w1, Below w.heap.size w w1 → Calls Tryd.prog 9 #[] w1 fun e w' => e = .returned (.bool true) ∧ Below w1.heap.size w1 w') := Lib.hid (fun w1 hb => awake08_walk w1 ((hb.cell (cell_lt hg)).trans hg))
  have HB := Lib.hid (Below.refl w.heap.size w)
  have HR := Lib.hid hr
  have HC := Lib.hid hc
  have HG := Lib.hid hg
  have hl0 : (0 : Int) ≤ (l.length : Int) := by omega
  by_cases h40 : l.length > 40
  · have hI : (40 : Int) < (l.length : Int) := by omega
    clear hr hc hg h40
    go_enter Tryd.func5, Tryd.ntmps5
    go_wp2_with (go_at_call 9; (with_reducible refine (HA.out _ HB.out).mono ?_); rintro e w1 ⟨rfl, hb1⟩; have HB := Lib.hid (below_step HB.out hb1); clear hb1)
    go_ret
    exact ⟨rfl, HB.out⟩
  · have hI : ¬ (40 : Int) < (l.length : Int) := by omega
    by_cases hs : s.size > 100
    · have hS : (100 : Int) < (s.size : Int) := by omega
      clear hr hc hg h40 hs
      go_enter Tryd.func5, Tryd.ntmps5
      go_wp2_with (go_at_call 9; (with_reducible refine (HA.out _ HB.out).mono ?_); rintro e w1 ⟨rfl, hb1⟩; have HB := Lib.hid (below_step HB.out hb1); clear hb1)
      go_ret
      exact ⟨rfl, HB.out⟩
    · have hS : ¬ (100 : Int) < (s.size : Int) := by omega
      have hl40 : l.length ≤ 40 := by omega
      clear hr hc hg h40 hs
      go_enter Tryd.func5, Tryd.ntmps5
      go_upto_region 4 with (go_at_call 22; (with_reducible refine (enew_walk s _).mono ?_); rintro e w1 ⟨rfl, hb1⟩; have HB := Lib.hid (below_step HB.out hb1); clear hb1)
      obtain ⟨f, hf⟩ : ∃ f, f = Leaf.text w.heap.size := ⟨_, rfl⟩
      have HF := Lib.hid hf
      rw [← hf]
      clear hf
      go_wp2_with fail
      go_loopw [8, 7] (fun v8 v7 wr => ∃ (k : Nat) (E : Value), k ≤ l.length ∧ v8 = .int .i64 k ∧ v7 = E ∧ Hid (EC wr f E (l.take k).reverse) ∧ Hid (Below w.heap.size w wr)) (fun v8 _ _ => 2000 - (intOf v8).toNat)
      case atStart => exact ⟨0, _, Nat.zero_le _, rfl, rfl, Lib.hid rfl, HB⟩
      case round =>
        clear HB
        obtain ⟨k, E, hk, rfl, rfl, HE, HB⟩ := hrel
        have hk40 : (k : Int) ≤ 40 := by omega
        by_cases h : k < l.length
        · have hlt : (k : Int) < (l.length : Int) := by omega
          obtain ⟨ad, rfl, hcell0⟩ := cell_list HR.out k h
          have hcell := (HB.out.cell (cell_lt hcell0)).trans hcell0
          have hgx : (l.take (k + 1)).reverse = l.getD k 0 :: (l.take k).reverse := by rw [take_next l k h, List.reverse_append]; rfl
          generalize l.getD k 0 = y at hcell hgx
          have HGX := Lib.hid hgx
          have HAT := Lib.hid (at_chain y f u7 _ wr HE.out)
          clear hcell0 hgx HE
          go_wp2_with (go_at_call 19; (with_reducible refine HAT.out.mono ?_); rintro e w2 ⟨E2, rfl, hE2, hb2⟩; have HE2 := Lib.hid hE2; have HB2 := Lib.hid (below_step HB.out hb2); clear hE2 hb2)
          go_roundw
          case rel => exact ⟨k + 1, _, h, by go_num, rfl, Lib.hid (by rw [HGX.out]; exact HE2.out), HB2⟩
          case measure => simp [intOf]; omega
        · have hge : ¬ (k : Int) < (l.length : Int) := by omega
          have hkk : k = l.length := by omega
          subst hkk
          have hE := HE.out
          rw [List.take_length] at hE
          obtain ⟨rv, hrv⟩ : ∃ rv, l.reverse = rv := ⟨_, rfl⟩
          rw [hrv] at hE
          have HE := Lib.hid hE
          have HRV := Lib.hid hrv
          have HRL : Hid (rv.length ≤ 1000) := Lib.hid (by rw [← hrv, List.length_reverse]; omega)
          have hi0 : ∀ (E : Value) (w1 : World), EC w1 f E rv → Calls Tryd.prog 14 #[E, .int .i64 1] w1 fun e w' => e = .returned (.bool false) ∧ w1 = w' := fun E w1 h => by
            have := fis_walk f 1 E rv w1 h
            rw [HF.out] at this
            exact this
          have HI0 := Lib.hid hi0
          have hnum : f.num = 1 := by rw [HF.out]; rfl
          have hT : textOf f rv = textOf (.code 1) rv := by unfold textOf; rw [hnum]; rfl
          have htext := refText_all 1 l (by omega)
          rw [hrv, ← hT] at htext
          obtain ⟨T, hT2⟩ : ∃ T, textOf f rv = T := ⟨_, rfl⟩
          rw [hT2] at htext
          have HText := Lib.hid htext
          have HTx := Lib.hid hT2
          have HNum := Lib.hid hnum
          have hm : decide (p ∈ rv) = decide (p ∈ l) := by rw [← hrv]; simp
          have HM := Lib.hid hm
          have hnn : muleteerref08_Name.f p = some (nameOf p) := refName_eq p
          generalize nameOf p = nm at hnn
          have HNN := Lib.hid hnn
          have HName : Hid (∀ w1, Calls Tryd.prog 25 #[.int .i64 p] w1 fun e w' => e = .returned (.string nm) ∧ w1 = w') := Lib.hid (fun w1 => by
            have := name_walk p w1
            have e1 : nameOf p = nm := Option.some.inj ((refName_eq p).symm.trans HNN.out)
            rwa [e1] at this)
          obtain ⟨uE, vE, rfl⟩ := EC.held hE
          clear hE hrv hi0 hnum hT htext hT2 hm hnn
          generalize wr = w5 at HE HB ⊢
          go_wp2_with fail
          go_loopw [10, 9] (fun v10 v9 wr => ∃ (k : Nat), k ≤ l.length ∧ v10 = .int .i64 k ∧ v9 = .bool (decide (p ∈ l.take k)) ∧ wr = w5) (fun v10 _ _ => 2000 - (intOf v10).toNat)
          case atStart => exact ⟨0, Nat.zero_le _, rfl, by simp, rfl⟩
          case round =>
            obtain ⟨k, hk, rfl, rfl, rfl⟩ := hrel
            have hk40 : (k : Int) ≤ 40 := by omega
            by_cases h : k < l.length
            · have hlt : (k : Int) < (l.length : Int) := by omega
              obtain ⟨ad, rfl, hcell0⟩ := cell_list HR.out k h
              have hcell := (HB.out.cell (cell_lt hcell0)).trans hcell0
              have ht : decide (p ∈ l.take (k + 1)) = (decide (p ∈ l.take k) || (l.getD k 0 == p)) := by
                rw [take_next l k h]
                generalize l.getD k 0 = z
                by_cases e2 : z = p
                · subst e2
                  simp
                · have e3 : ¬ p = z := fun h => e2 h.symm
                  simp [e2, e3]
              generalize l.getD k 0 = y at hcell ht
              have HT := Lib.hid ht
              clear hcell0 ht
              cases hb : decide (p ∈ l.take k)
              · rw [hb] at HT
                have HT2 := Lib.hid (HT.out.trans (Bool.false_or _))
                go_wp2_with fail
                go_roundw
                case rel => exact ⟨k + 1, h, by go_num, by rw [HT2.out], trivial⟩
                case measure => simp [intOf]; omega
              · rw [hb] at HT
                have HT2 := Lib.hid (HT.out.trans (Bool.true_or _))
                go_wp2_with fail
                go_roundw
                case rel => exact ⟨k + 1, h, by go_num, by rw [HT2.out], trivial⟩
                case measure => simp [intOf]; omega
            · have hge : ¬ (k : Int) < (l.length : Int) := by omega
              have hkk : k = l.length := by omega
              subst hkk
              have HHas : Hid (∀ w1 E, EC w1 f E rv → Below w.heap.size w w1 → Calls Tryd.prog 21 #[E, .int .i64 p] w1 fun e w' => e = .returned (.bool (decide (p ∈ l))) ∧ Below w1.heap.size w1 w') := Lib.hid (fun w1 E hE hB => by
                have := has_walk f E rv p HRL.out w1 ((hB.cell (cell_lt HG.out)).trans HG.out) hE
                rwa [HM.out] at this)
              rw [List.take_length]
              generalize decide (p ∈ l) = bb at HHas ⊢
              clear hge hk hk40 hl40
              go_wp2_with (first
                | (go_at_call 23; (with_reducible refine (unwrap_none _).mono ?_); rintro e w1 ⟨rfl, rfl⟩)
                | (go_at_call 24; (with_reducible refine (error_none _).mono ?_); rintro e w1 ⟨rfl, rfl⟩)
                | (go_at_call 25; (with_reducible refine (HName.out _).mono ?_); rintro e w1 ⟨rfl, rfl⟩)
                | (go_at_call 26; (with_reducible refine (muleteerref08_Name.calls p nm _ HNN.out).mono ?_); rintro e w1 ⟨rfl, hb1⟩; have HB := Lib.hid (below_step HB.out hb1); have HE := Lib.hid (HE.out.below hb1); clear hb1)
                | (go_at_call 9; (with_reducible refine (HA.out _ HB.out).mono ?_); rintro e w1 ⟨rfl, hb1⟩; have HB := Lib.hid (below_step HB.out hb1); have HE := Lib.hid (HE.out.below hb1); clear hb1)
                | (go_at_call 11; (with_reducible refine (code_walk f _ rv _ ((HB.out.cell (cell_lt HG.out)).trans HG.out) HE.out).mono ?_); rintro e w1 ⟨rfl, hb1⟩; have HB := Lib.hid (below_step HB.out hb1); have HE := Lib.hid (HE.out.below hb1); rw [HNum.out]; clear hb1)
                | (go_at_call 14; (with_reducible refine (HI0.out _ _ HE.out).mono ?_); rintro e w1 ⟨rfl, rfl⟩)
                | (go_at_call 21; (with_reducible refine (HHas.out _ _ HE.out HB.out).mono ?_); rintro e w1 ⟨rfl, hb1⟩; have HB := Lib.hid (below_step HB.out hb1); have HE := Lib.hid (HE.out.below hb1); clear hb1)
                | (go_at_call 13; (with_reducible refine (text_walk f _ rv HRL.out _ ((HB.out.cell (cell_lt HG.out)).trans HG.out) HE.out).mono ?_); rintro e w1 ⟨rfl, hb1⟩; have HB := Lib.hid (below_step HB.out hb1); have HE := Lib.hid (HE.out.below hb1); rw [HTx.out]; clear hb1)
                | (go_at_call 17; (with_reducible refine (muleteerref08_Text.calls _ 1 A c l T _ (Kd.C_below HR.out HB.out) HC.out HText.out).mono ?_); rintro e w1 ⟨rfl, hb1⟩; have HB := Lib.hid (below_step HB.out hb1); have HE := Lib.hid (HE.out.below hb1); clear hb1))
              go_ret
              exact ⟨rfl, HB.out⟩
end Go.Proofs.YtlnljnldpnhjiaaDoor.Hand
