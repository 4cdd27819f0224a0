/- OutcomeWraps: the walk of the law. -/
import Derived.Test.YtlnljnldpnhjiaaDoorOutcome
namespace Go.Proofs.YtlnljnldpnhjiaaDoor.Hand
open Go.RowKit Go.Proofs.YtlnljnldpnhjiaaDoorW.PrintWords Go.Proofs.YtlnljnldpnhjiaaDoorW.PrintLast
set_option linter.unusedVariables false
set_option linter.unusedSimpArgs false
set_option maxRecDepth 100000 in
set_option maxHeartbeats 1000000 in
theorem OutcomeWraps_walk (x : Int) (A : Option Addr) (c : Nat) (l : List Int) (p : Int) (w : World) (hg : w.cell? ⟨0, 0, none⟩ = some (.iface 84 (.agg #[.pointer (some ⟨1, 26, none⟩)])))
    (hr : Kd.C (Kd.int .i64) w A l.length l) (hc : l.length ≤ c) : Calls Tryd.prog 6 #[.int .i64 x, .slice A l.length c, .int .i64 p] w fun e w' => e = .returned (.bool true) ∧ Below w.heap.size w w' := by
  have HA : Hid (∀ w1, Below w.heap.size w w1 → Calls Tryd.prog 27 #[] w1 fun e w' => e = .returned (.bool true) ∧ Below w1.heap.size w1 w') := Lib.hid (fun w1 hb => awake28_walk w1 ((hb.cell (cell_lt hg)).trans hg))
  have HB := Lib.hid (Below.refl w.heap.size w)
  by_cases h40 : l.length > 40
  · have hI : (40 : Int) < (l.length : Int) := by omega
    clear hr hc hg h40
    go_enter Tryd.func6, Tryd.ntmps6
    go_wp2_with (go_at_call 27; (with_reducible refine (HA.out _ HB.out).mono ?_); rintro e w1 ⟨rfl, hb1⟩; have HB := Lib.hid (below_step HB.out hb1); clear hb1)
    go_ret
    exact ⟨rfl, HB.out⟩
  · have hI : ¬ (40 : Int) < (l.length : Int) := by omega
    by_cases hx : x = 0
    · subst hx
      clear hr hc hg h40
      by_cases hp : p = 1
      · subst hp
        go_enter Tryd.func6, Tryd.ntmps6
        go_wp2_with (first
          | (go_at_call 27; (with_reducible refine (HA.out _ HB.out).mono ?_); rintro e w1 ⟨rfl, hb1⟩; have HB := Lib.hid (below_step HB.out hb1); clear hb1)
          | (go_at_call 10; (with_reducible refine (of_none _ _ _ _).mono ?_); rintro e w1 ⟨rfl, rfl⟩)
          | (go_at_call 19; (with_reducible refine (at_nil _ _).mono ?_); rintro e w1 ⟨rfl, rfl⟩)
          | (go_at_call 28; (with_reducible refine (of28_none _).mono ?_); rintro e w1 ⟨rfl, rfl⟩))
        go_ret
        exact ⟨rfl, HB.out⟩
      · have ep : (p == 1) = false := by simpa using hp
        clear hp
        go_enter Tryd.func6, Tryd.ntmps6
        go_wp2_with (first
          | (go_at_call 27; (with_reducible refine (HA.out _ HB.out).mono ?_); rintro e w1 ⟨rfl, hb1⟩; have HB := Lib.hid (below_step HB.out hb1); clear hb1)
          | (go_at_call 10; (with_reducible refine (of_none _ _ _ _).mono ?_); rintro e w1 ⟨rfl, rfl⟩)
          | (go_at_call 19; (with_reducible refine (at_nil _ _).mono ?_); rintro e w1 ⟨rfl, rfl⟩)
          | (go_at_call 28; (with_reducible refine (of28_none _).mono ?_); rintro e w1 ⟨rfl, rfl⟩))
        go_ret
        exact ⟨rfl, HB.out⟩
    · have e0 : (x == 0) = false := by simpa using hx
      have HO := Lib.hid (of_walk x hx A c l w hr (by omega))
      obtain ⟨rv, hrv⟩ : ∃ rv, l.reverse = rv := ⟨_, rfl⟩
      rw [hrv] at HO
      have HQ : Hid (∀ (w1 : World) (E : Value) (l2 : List Int), EC w1 (.code x) E l2 → Below w.heap.size w w1 → Calls Tryd.prog 28 #[E] w1 fun e w' => e = .returned (.int .i64 (outOf (.code x) l2)) ∧ Below w1.heap.size w1 w') := Lib.hid (fun w1 E l2 hE hB => of28_walk (.code x) E l2 w1 ((hB.cell (cell_lt hg)).trans hg) hE)
      have key : (p = 1 ∧ outOf (.code x) rv = 3 ∧ outOf (.code x) (p :: rv) = 2) ∨ (¬ (p = 1 ∧ outOf (.code x) rv = 3) ∧ outOf (.code x) (p :: rv) = outOf (.code x) rv) := by
        by_cases h13 : x = 13
        · subst h13
          have e1 : (Leaf.code 13).is 13 = true := rfl
          by_cases hm : (1 : Int) ∈ rv
          · refine .inr ⟨?_, ?_⟩
            · rw [outOf, if_pos e1, if_pos hm]; omega
            · rw [outOf, outOf, if_pos e1, if_pos e1, if_pos hm, if_pos (List.mem_cons_of_mem _ hm)]
          · by_cases hp : p = 1
            · refine .inl ⟨hp, ?_, ?_⟩
              · rw [outOf, if_pos e1, if_neg hm]
              · rw [outOf, if_pos e1, if_pos (by rw [hp]; simp)]
            · refine .inr ⟨fun h => hp h.1, ?_⟩
              rw [outOf, outOf, if_pos e1, if_pos e1, if_neg hm, if_neg (by simp [hm]; exact fun h => hp h.symm)]
        · have e1 : ¬ (Leaf.code x).is 13 = true := by simp [Leaf.is, h13]
          refine .inr ⟨?_, ?_⟩
          · rintro ⟨_, h⟩
            rw [outOf, if_neg e1] at h
            repeat' split at h
            all_goals omega
          · rw [outOf, outOf, if_neg e1, if_neg e1]
      have HQ1 : Hid (∀ (w1 : World) (E : Value), EC w1 (.code x) E rv → Below w.heap.size w w1 → Calls Tryd.prog 28 #[E] w1 fun e w' => e = .returned (.int .i64 (outOf (.code x) rv)) ∧ Below w1.heap.size w1 w') := Lib.hid (fun w1 E => HQ.out w1 E rv)
      have HQ2 : Hid (∀ (w1 : World) (E : Value), EC w1 (.code x) E (p :: rv) → Below w.heap.size w w1 → Calls Tryd.prog 28 #[E] w1 fun e w' => e = .returned (.int .i64 (outOf (.code x) (p :: rv))) ∧ Below w1.heap.size w1 w') := Lib.hid (fun w1 E => HQ.out w1 E (p :: rv))
      generalize outOf (.code x) (p :: rv) = q2 at key HQ2
      generalize outOf (.code x) rv = q1 at key HQ1
      clear hr hc hg h40 hrv hx HQ
      go_enter Tryd.func6, Tryd.ntmps6
      go_upto_region 4 with (go_at_call 10; (with_reducible refine HO.out.mono ?_); rintro e w1 ⟨E, rfl, hE, hb1⟩; have HB := Lib.hid (below_step HB.out hb1); have HE := Lib.hid hE; obtain ⟨u, v, rfl⟩ := hE.held; clear hb1 hE)
      rcases key with ⟨rfl, rfl, rfl⟩ | ⟨hno, rfl⟩
      · go_wp2_with (first
          | (go_at_call 27; (with_reducible refine (HA.out _ HB.out).mono ?_); rintro e w1 ⟨rfl, hb1⟩; have HB := Lib.hid (below_step HB.out hb1); clear hb1)
          | (go_at_call 19; (with_reducible refine (at_chain 1 (.code x) _ rv _ HE.out).mono ?_); rintro e w1 ⟨E2, rfl, hE, hb1⟩; have HB := Lib.hid (below_step HB.out hb1); have HF := Lib.hid hE; obtain ⟨u2, v2, rfl⟩ := hE.held; clear hb1 hE)
          | (go_at_call 28; (with_reducible refine (HQ1.out _ _ HE.out HB.out).mono ?_); rintro e w1 ⟨rfl, hb1⟩; have HB := Lib.hid (below_step HB.out hb1); have HE := Lib.hid (HE.out.below hb1); clear hb1)
          | (go_at_call 28; (with_reducible refine (HQ2.out _ _ HF.out HB.out).mono ?_); rintro e w1 ⟨rfl, hb1⟩; have HB := Lib.hid (below_step HB.out hb1); clear hb1))
        go_ret
        exact ⟨rfl, HB.out⟩
      · by_cases hp : p = 1
        · subst hp
          have e3 : (q2 == 3) = false := by
            have : ¬ q2 = 3 := fun h => hno ⟨rfl, h⟩
            simpa using this
          clear hno
          go_wp2_with (first
            | (go_at_call 27; (with_reducible refine (HA.out _ HB.out).mono ?_); rintro e w1 ⟨rfl, hb1⟩; have HB := Lib.hid (below_step HB.out hb1); clear hb1)
            | (go_at_call 19; (with_reducible refine (at_chain 1 (.code x) _ rv _ HE.out).mono ?_); rintro e w1 ⟨E2, rfl, hE, hb1⟩; have HB := Lib.hid (below_step HB.out hb1); have HF := Lib.hid hE; obtain ⟨u2, v2, rfl⟩ := hE.held; clear hb1 hE)
            | (go_at_call 28; (with_reducible refine (HQ1.out _ _ HE.out HB.out).mono ?_); rintro e w1 ⟨rfl, hb1⟩; have HB := Lib.hid (below_step HB.out hb1); have HE := Lib.hid (HE.out.below hb1); clear hb1)
            | (go_at_call 28; (with_reducible refine (HQ2.out _ _ HF.out HB.out).mono ?_); rintro e w1 ⟨rfl, hb1⟩; have HB := Lib.hid (below_step HB.out hb1); clear hb1))
          go_ret
          exact ⟨rfl, HB.out⟩
        · have ep : (p == 1) = false := by simpa using hp
          clear hp hno
          go_wp2_with (first
            | (go_at_call 27; (with_reducible refine (HA.out _ HB.out).mono ?_); rintro e w1 ⟨rfl, hb1⟩; have HB := Lib.hid (below_step HB.out hb1); clear hb1)
            | (go_at_call 19; (with_reducible refine (at_chain p (.code x) _ rv _ HE.out).mono ?_); rintro e w1 ⟨E2, rfl, hE, hb1⟩; have HB := Lib.hid (below_step HB.out hb1); have HF := Lib.hid hE; obtain ⟨u2, v2, rfl⟩ := hE.held; clear hb1 hE)
            | (go_at_call 28; (with_reducible refine (HQ1.out _ _ HE.out HB.out).mono ?_); rintro e w1 ⟨rfl, hb1⟩; have HB := Lib.hid (below_step HB.out hb1); have HE := Lib.hid (HE.out.below hb1); clear hb1)
            | (go_at_call 28; (with_reducible refine (HQ2.out _ _ HF.out HB.out).mono ?_); rintro e w1 ⟨rfl, hb1⟩; have HB := Lib.hid (below_step HB.out hb1); clear hb1))
          go_ret
          exact ⟨rfl, HB.out⟩
end Go.Proofs.YtlnljnldpnhjiaaDoor.Hand
namespace Go.Proofs.YtlnljnldpnhjiaaDoor.Pure
open Go.RowKit Go.Proofs.YtlnljnldpnhjiaaDoorW.PrintWords Go.Proofs.YtlnljnldpnhjiaaDoor.Hand
theorem OutcomeWraps (a0 : Int) (A1 : Option Addr) (c1 : Nat) (l1 : List Int) (p : Int) (w : World) (hg : w.cell? ⟨0, 0, none⟩ = some (.iface 84 (.agg #[.pointer (some ⟨1, 26, none⟩)])))
    (hr1 : Kd.C (Kd.int .i64) w A1 l1.length l1) (hc1 : l1.length ≤ c1) (_ : (Lit.int .i64 a0).wf = true) (_ : l1.length * 8 ≤ 140737488351232 ∧ ∀ x ∈ l1, (Lit.int .i64 x).wf = true) (_ : (Lit.int .i64 p).wf = true) :
    Calls Tryd.prog 6 #[.int .i64 a0, .slice A1 l1.length c1, .int .i64 p] w fun e w' => e = .returned (.bool true) ∧ Below w.heap.size w w' :=
  OutcomeWraps_walk a0 A1 c1 l1 p w hg hr1 hc1
end Go.Proofs.YtlnljnldpnhjiaaDoor.Pure
