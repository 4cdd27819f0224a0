/- FaultWraps: the walk of the law. -/
import Derived.Test.YtlnljnldpnhjiaaDoorFaultPure
namespace Go.Proofs.YtlnljnldpnhjiaaDoor.Hand
open Go.RowKit Go.Proofs.YtlnljnldpnhjiaaDoor.PFaultKeeps Go.Proofs.YtlnljnldpnhjiaaDoorW.PrintWords Go.Proofs.YtlnljnldpnhjiaaDoorW.PrintLast
set_option linter.unusedVariables false
set_option linter.unusedSimpArgs false
theorem first_cell {W : World} {e base : Nat} {ok : Nat → Prop} {g n cap : Nat} {p : Int} {xs : List Int} (h : (Kd.int .i64).R e W base ok (.slice (some ⟨g, 0, none⟩) n cap) (p :: xs)) : W.cell? ⟨g, 0, none⟩ = some (.int .i64 p) := by
  have hn := (Kd.R_reads' h).1
  subst hn
  exact (Kd.R_cell 0 h 0 (by decide) (by simp only [List.length_cons]; omega)).1
set_option maxRecDepth 100000 in
set_option maxHeartbeats 1000000 in
theorem FaultWraps_walk (x y : Int) (A : Option Addr) (c : Nat) (l : List Int) (p : Int) (w : World) (hg : w.cell? ⟨0, 0, none⟩ = some (.iface 84 (.agg #[.pointer (some ⟨1, 26, none⟩)])))
    (hr : Kd.C (Kd.int .i64) w A l.length l) (hc : l.length ≤ c) : Calls Tryd.prog 4 #[.agg #[.int .i64 x, .int .i64 y], .slice A l.length c, .int .i64 p] w fun e w' => e = .returned (.bool true) ∧ Below w.heap.size w w' := by
  have HA : Hid (∀ w1, Below w.heap.size w w1 → Calls Tryd.prog 9 #[] w1 fun e w' => e = .returned (.bool true) ∧ Below w1.heap.size w1 w') := Lib.hid (fun w1 hb => awake08_walk w1 ((hb.cell (cell_lt hg)).trans hg))
  have HB := Lib.hid (below_alloc (Below.refl w.heap.size w) (.cells #[.int .i64 x, .int .i64 y] 37))
  have hbx := blk_new w (.cells #[.int .i64 x, .int .i64 y] 37)
  have HR := Lib.hid hr
  have HC := Lib.hid hc
  have HG := Lib.hid hg
  have hl0 : (0 : Int) ≤ (l.length : Int) := by omega
  by_cases h40 : l.length > 40
  · have hI : (40 : Int) < (l.length : Int) := by omega
    clear hr hc hg h40 hbx
    go_enter Tryd.func4, Tryd.ntmps4
    go_wp2_with (go_at_call 9; (with_reducible refine (HA.out _ HB.out).mono ?_); rintro e w1 ⟨rfl, hb1⟩; have HB := Lib.hid (below_step HB.out hb1); clear hb1)
    go_ret
    exact ⟨rfl, HB.out⟩
  · have hI : ¬ (40 : Int) < (l.length : Int) := by omega
    have hI2 : (l.length : Int) ≤ 40 := by omega
    go_enter Tryd.func4, Tryd.ntmps4
    go_upto_region 1 with (fail)
    generalize w.alloc _ = w0 at hbx HB ⊢
    generalize w.heap.size = bx at hbx ⊢
    have k0 := blk_cell hbx 0
    have k1 := blk_cell hbx 1
    clear hbx
    go_upto_region 3 with (fail)
    go_region
    have HB := Lib.hid (below_drew HB.out)
    clear k0 k1
    generalize w0.drew = w0 at HB ⊢
    by_cases hx : x = 0
    · subst hx
      clear hr hc hg h40
      go_wp2_with (first
        | (go_at_call 9; (with_reducible refine (HA.out _ HB.out).mono ?_); rintro e w1 ⟨rfl, hb1⟩; have HB := Lib.hid (below_step HB.out hb1); clear hb1)
        | (go_at_call 10; (with_reducible refine (of_none _ _ _ _).mono ?_); rintro e w1 ⟨rfl, rfl⟩)
        | (go_at_call 19; (with_reducible refine (at_nil _ _).mono ?_); rintro e w1 ⟨rfl, rfl⟩))
      go_ret
      exact ⟨rfl, HB.out⟩
    · have HO := Lib.hid (of_walk x hx A c l w0 (Kd.C_below hr HB.out) (by omega))
      obtain ⟨rv, hrv⟩ : ∃ rv, l.reverse = rv := ⟨_, rfl⟩
      have hrl : rv.length = l.length := by rw [← hrv, List.length_reverse]
      rw [hrv] at HO
      have hi1 : ∀ (E : Value) (w1 : World), EC w1 (.code x) E (p :: rv) → Calls Tryd.prog 14 #[E, .int .i64 y] w1 fun e w' => e = .returned (.bool (x == y)) ∧ w1 = w' := fun E w1 h => by
        have := fis_walk (.code x) y E (p :: rv) w1 h
        rwa [show (y != 0 && (Leaf.code x).is y) = (x == y) by
          by_cases e : x = y
          · subst e; simp [Leaf.is, hx]
          · simp [Leaf.is, e]] at this
      have HI1 := Lib.hid hi1
      have HRL := Lib.hid hrl
      have HRL2 : Hid ((p :: rv).length ≤ 1000) := Lib.hid (by rw [List.length_cons]; omega)
      have HRL3 : Hid (rv.length ≤ 1000) := Lib.hid (by omega)
      have HM : Hid (decide (p ∈ p :: rv) = true) := Lib.hid (by simp)
      have HLEN : Hid ((p :: rv).length = l.length + 1) := Lib.hid (by rw [List.length_cons, hrl])
      clear hr hc hg h40 hrl hrv hi1 hx
      go_upto_region 10 with (first
        | (go_at_call 10; (with_reducible refine HO.out.mono ?_); rintro e w1 ⟨E, rfl, hE, hb1⟩; have HB := Lib.hid (below_step HB.out hb1); have HE := Lib.hid hE; obtain ⟨u, v, rfl⟩ := hE.held; clear hb1 hE)
        | (go_at_call 19; (with_reducible refine (at_chain p (.code x) _ rv _ HE.out).mono ?_); rintro e w1 ⟨E2, rfl, hE, hb1⟩; have HB := Lib.hid (below_step HB.out hb1); have HF := Lib.hid hE; obtain ⟨u2, v2, rfl⟩ := hE.held; clear hb1 hE)
        | (go_at_call 11; (with_reducible refine (code_walk (.code x) _ (p :: rv) _ ((HB.out.cell (cell_lt HG.out)).trans HG.out) HF.out).mono ?_); rintro e w1 ⟨rfl, hb1⟩; have HB := Lib.hid (below_step HB.out hb1); have HF := Lib.hid (HF.out.below hb1); clear hb1; dsimp only [Leaf.num])
        | (go_at_call 14; (with_reducible refine (HI1.out _ _ HF.out).mono ?_); rintro e w1 ⟨rfl, rfl⟩))
      go_upto_region 12 with (first
        | (go_at_call 12; (with_reducible refine (places_walk (.code x) _ (p :: rv) HRL2.out _ ((HB.out.cell (cell_lt HG.out)).trans HG.out) HF.out).mono ?_); rintro e w1 ⟨v1, rfl, hR1, hb1⟩; have HB := Lib.hid (below_step HB.out hb1); have HF := Lib.hid (HF.out.below hb1); obtain ⟨g1, c1, rfl, _⟩ := Kd.R_form hR1 (by simp); have HR1 := Lib.hid hR1; rw [HLEN.out]; clear hb1 hR1)
        | (go_at_call 20; (with_reducible refine (eunwrap_walk (.code x) _ p rv _ HF.out).mono ?_); rintro e w1 ⟨E3, rfl, hE, rfl⟩; have HE := Lib.hid hE; obtain ⟨u3, v3, rfl⟩ := hE.held; clear hE))
      go_wp2_with (first
        | (go_at_call 9; (with_reducible refine (HA.out _ HB.out).mono ?_); rintro e w1 ⟨rfl, hb1⟩; have HB := Lib.hid (below_step HB.out hb1); have HF := Lib.hid (HF.out.below hb1); have HE := Lib.hid (HE.out.below hb1); have kx := first_cell (Kd.R_below HR1.out hb1); clear hb1)
        | (go_at_call 21; (with_reducible refine (has_walk (.code x) _ (p :: rv) p HRL2.out _ ((HB.out.cell (cell_lt HG.out)).trans HG.out) HF.out).mono ?_); rintro e w1 ⟨rfl, hb1⟩; have HB := Lib.hid (below_step HB.out hb1); have HE := Lib.hid (HE.out.below hb1); rw [HM.out]; clear hb1)
        | (go_at_call 11; (with_reducible refine (code_walk (.code x) _ rv _ ((HB.out.cell (cell_lt HG.out)).trans HG.out) HE.out).mono ?_); rintro e w1 ⟨rfl, hb1⟩; have HB := Lib.hid (below_step HB.out hb1); have HE := Lib.hid (HE.out.below hb1); clear hb1; dsimp only [Leaf.num])
        | (go_at_call 12; (with_reducible refine (places_walk (.code x) _ rv HRL3.out _ ((HB.out.cell (cell_lt HG.out)).trans HG.out) HE.out).mono ?_); rintro e w1 ⟨v1, rfl, hR4, hb1⟩; have HB := Lib.hid (below_step HB.out hb1); obtain ⟨A4, c4, rfl, _⟩ := Kd.R_reads hR4; rw [HRL.out]; clear hb1 hR4))
      go_ret
      exact ⟨rfl, HB.out⟩
end Go.Proofs.YtlnljnldpnhjiaaDoor.Hand
