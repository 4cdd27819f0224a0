/- FaultKeeps: the walk of the law. -/
import Derived.Test.YtlnljnldpnhjiaaDoorFaultPure
namespace Go.Proofs.YtlnljnldpnhjiaaDoor.Hand
open Go.RowKit Go.Proofs.YtlnljnldpnhjiaaDoor.PFaultKeeps Go.Proofs.YtlnljnldpnhjiaaDoorW.PrintWords Go.Proofs.YtlnljnldpnhjiaaDoorW.PrintLast
set_option linter.unusedVariables false
set_option linter.unusedSimpArgs false
set_option maxRecDepth 100000 in
set_option maxHeartbeats 1000000 in
theorem FaultKeeps_walk (x : Int) (A : Option Addr) (c : Nat) (l : List Int) (w : World) (hg : w.cell? ⟨0, 0, none⟩ = some (.iface 84 (.agg #[.pointer (some ⟨1, 26, none⟩)])))
    (hr : Kd.C (Kd.int .i64) w A l.length l) (hc : l.length ≤ c) : Calls Tryd.prog 3 #[.int .i64 x, .slice A l.length c] w fun e w' => e = .returned (.bool true) ∧ Below w.heap.size w w' := by
  have HA : Hid (∀ w1, Below w.heap.size w w1 → Calls Tryd.prog 9 #[] w1 fun e w' => e = .returned (.bool true) ∧ Below w1.heap.size w1 w') := Lib.hid (fun w1 hb => awake08_walk w1 ((hb.cell (cell_lt hg)).trans hg))
  have HB := Lib.hid (Below.refl w.heap.size w)
  by_cases h40 : l.length > 40
  · have hI : (40 : Int) < (l.length : Int) := by omega
    clear hr hc hg h40
    go_enter Tryd.func3, Tryd.ntmps3
    go_wp2_with (go_at_call 9; (with_reducible refine (HA.out _ HB.out).mono ?_); rintro e w1 ⟨rfl, hb1⟩; have HB := Lib.hid (below_step HB.out hb1); clear hb1)
    go_ret
    exact ⟨rfl, HB.out⟩
  · have hI : ¬ (40 : Int) < (l.length : Int) := by omega
    by_cases hx : x = 0
    · subst hx
      clear hr hc hg h40
      go_enter Tryd.func3, Tryd.ntmps3
      go_wp2_with (first
        | (go_at_call 9; (with_reducible refine (HA.out _ HB.out).mono ?_); rintro e w1 ⟨rfl, hb1⟩; have HB := Lib.hid (below_step HB.out hb1); clear hb1)
        | (go_at_call 10; (with_reducible refine (of_none _ _ _ _).mono ?_); rintro e w1 ⟨rfl, rfl⟩)
        | (go_at_call 11; (with_reducible refine (code_none _).mono ?_); rintro e w1 ⟨rfl, rfl⟩)
        | (go_at_call 12; (with_reducible refine (places_none _).mono ?_); rintro e w1 ⟨rfl, hb1⟩; have HB := Lib.hid (below_step HB.out hb1); clear hb1)
        | (go_at_call 13; (with_reducible refine (text_none _).mono ?_); rintro e w1 ⟨rfl, rfl⟩)
        | (go_at_call 14; (with_reducible refine (fis_none _ _).mono ?_); rintro e w1 ⟨rfl, rfl⟩))
      go_ret
      exact ⟨rfl, HB.out⟩
    · have e0 : (x == 0) = false := by simpa using hx
      have HO := Lib.hid (of_walk x hx A c l w hr (by omega))
      obtain ⟨rv, hrv⟩ : ∃ rv, l.reverse = rv := ⟨_, rfl⟩
      have hrl : rv.length ≤ 40 := by rw [← hrv, List.length_reverse]; omega
      have hsame := same_all rv (by omega)
      have htext := refText_all x l (by omega)
      have hturn := turned_all l (by omega)
      rw [hrv] at HO htext hturn
      obtain ⟨T, hT⟩ : ∃ T, textOf (.code x) rv = T := ⟨_, rfl⟩
      rw [hT] at htext
      have HSame := Lib.hid hsame
      have HText := Lib.hid htext
      have HTurn := Lib.hid hturn
      have HRL := Lib.hid hrl
      have HTx := Lib.hid hT
      have HR := Lib.hid hr
      have HC := Lib.hid hc
      have HG := Lib.hid hg
      have e2 : (x != 0 && (Leaf.code x).is x) = true := by simp [Leaf.is, hx]
      have hi1 : ∀ (E : Value) (w1 : World), EC w1 (.code x) E rv → Calls Tryd.prog 14 #[E, .int .i64 x] w1 fun e w' => e = .returned (.bool true) ∧ w1 = w' := fun E w1 h => by
        have := fis_walk (.code x) x E rv w1 h
        rwa [e2] at this
      have hi0 : ∀ (E : Value) (w1 : World), EC w1 (.code x) E rv → Calls Tryd.prog 14 #[E, .int .i64 0] w1 fun e w' => e = .returned (.bool false) ∧ w1 = w' := fun E w1 h => fis_walk (.code x) 0 E rv w1 h
      have hi2 : ∀ (E : Value) (w1 : World), EC w1 (.code x) E rv → Calls Tryd.prog 18 #[E, .iface 22 (.int .i64 x)] w1 fun e w' => e = .returned (.bool true) ∧ w1 = w' := fun E w1 h => by
        have := errorsIs_walk w1 (.code x) x E rv h
        rwa [show (Leaf.code x).is x = true by simp [Leaf.is]] at this
      have HI1 := Lib.hid hi1
      have HI0 := Lib.hid hi0
      have HI2 := Lib.hid hi2
      clear hr hc hg h40 hsame htext hturn hrl hT hrv e2 hi1 hi0 hi2 hx
      go_enter Tryd.func3, Tryd.ntmps3
      go_upto_region 4 with (go_at_call 10; (with_reducible refine HO.out.mono ?_); rintro e w1 ⟨E, rfl, hE, hb1⟩; have HB := Lib.hid (below_step HB.out hb1); have HE := Lib.hid hE; obtain ⟨u, v, rfl⟩ := hE.held; clear hb1 hE)
      go_wp2_with (first
        | (go_at_call 9; (with_reducible refine (HA.out _ HB.out).mono ?_); rintro e w1 ⟨rfl, hb1⟩; have HB := Lib.hid (below_step HB.out hb1); have HE := Lib.hid (HE.out.below hb1); clear hb1)
        | (go_at_call 11; (with_reducible refine (code_walk (.code x) _ rv _ ((HB.out.cell (cell_lt HG.out)).trans HG.out) HE.out).mono ?_); rintro e w1 ⟨rfl, hb1⟩; have HB := Lib.hid (below_step HB.out hb1); have HE := Lib.hid (HE.out.below hb1); clear hb1; dsimp only [Leaf.num])
        | (go_at_call 14; (with_reducible refine (HI1.out _ _ HE.out).mono ?_); rintro e w1 ⟨rfl, rfl⟩)
        | (go_at_call 14; (with_reducible refine (HI0.out _ _ HE.out).mono ?_); rintro e w1 ⟨rfl, rfl⟩)
        | (go_at_call 18; (with_reducible refine (HI2.out _ _ HE.out).mono ?_); rintro e w1 ⟨rfl, rfl⟩)
        | (go_at_call 12; (with_reducible refine (places_walk (.code x) _ rv (Nat.le_trans HRL.out (by decide)) _ ((HB.out.cell (cell_lt HG.out)).trans HG.out) HE.out).mono ?_); rintro e w1 ⟨v1, rfl, hR1, hb1⟩; have HB := Lib.hid (below_step HB.out hb1); have HE := Lib.hid (HE.out.below hb1); obtain ⟨A1, c1, rfl, hc1, hC1⟩ := Kd.R_reads hR1; have HC1 := Lib.hid hC1; have HL1 := Lib.hid hc1; clear hb1 hR1 hC1 hc1)
        | (go_at_call 16; (with_reducible refine (muleteerref08_Turned.calls _ A c l rv _ (Kd.C_below HR.out HB.out) HC.out HTurn.out).mono ?_); rintro e w1 ⟨v1, rfl, hR2, hb1⟩; have HB := Lib.hid (below_step HB.out hb1); have HE := Lib.hid (HE.out.below hb1); have HC1 := Lib.hid (Kd.C_below HC1.out hb1); obtain ⟨A2, c2, rfl, hc2, hC2⟩ := Kd.R_reads hR2; have HC2 := Lib.hid hC2; have HL2 := Lib.hid hc2; clear hb1 hR2 hC2 hc2)
        | (go_at_call 15; (with_reducible refine (muleteerlaw08_same.calls _ A1 c1 rv A2 c2 rv true _ HC1.out HL1.out HC2.out HL2.out HSame.out).mono ?_); rintro e w1 ⟨rfl, hb1⟩; have HB := Lib.hid (below_step HB.out hb1.below); have HE := Lib.hid (HE.out.below hb1.below); clear hb1)
        | (go_at_call 13; (with_reducible refine (text_walk (.code x) _ rv (Nat.le_trans HRL.out (by decide)) _ ((HB.out.cell (cell_lt HG.out)).trans HG.out) HE.out).mono ?_); rintro e w1 ⟨rfl, hb1⟩; have HB := Lib.hid (below_step HB.out hb1); have HE := Lib.hid (HE.out.below hb1); rw [HTx.out]; clear hb1)
        | (go_at_call 17; (with_reducible refine (muleteerref08_Text.calls _ x A c l T _ (Kd.C_below HR.out HB.out) HC.out HText.out).mono ?_); rintro e w1 ⟨rfl, hb1⟩; have HB := Lib.hid (below_step HB.out hb1); have HE := Lib.hid (HE.out.below hb1); clear hb1))
      go_ret
      exact ⟨rfl, HB.out⟩
end Go.Proofs.YtlnljnldpnhjiaaDoor.Hand
