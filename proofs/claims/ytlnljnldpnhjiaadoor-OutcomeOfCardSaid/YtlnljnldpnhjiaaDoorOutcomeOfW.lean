/- OutcomeOf: the walk of the law. -/
import Derived.Test.YtlnljnldpnhjiaaDoorPOutcomeOfx1
import Derived.Test.YtlnljnldpnhjiaaDoorOutcome
namespace Go.Proofs.YtlnljnldpnhjiaaDoor.Hand
open Go.RowKit Go.Proofs.YtlnljnldpnhjiaaDoor.POutcomeOf Go.Proofs.YtlnljnldpnhjiaaDoorW.PrintWords Go.Proofs.YtlnljnldpnhjiaaDoorW.PrintLast
set_option linter.unusedVariables false
set_option linter.unusedSimpArgs false
namespace OutOf
theorem op_both (a : Int) : ∃ r, outcome_Op.f 1 a = some r ∧ muleteerref28_Op.f a = some r := by
  by_cases h : 0 ≤ a ∧ a ≤ 9
  · obtain ⟨k, rfl⟩ : ∃ k : Nat, a = k := ⟨a.toNat, by omega⟩
    have hk : k < 10 := by omega
    match k, hk with
    | 0, _ => exact ⟨_, rfl, rfl⟩
    | 1, _ => exact ⟨_, rfl, rfl⟩
    | 2, _ => exact ⟨_, rfl, rfl⟩
    | 3, _ => exact ⟨_, rfl, rfl⟩
    | 4, _ => exact ⟨_, rfl, rfl⟩
    | 5, _ => exact ⟨_, rfl, rfl⟩
    | 6, _ => exact ⟨_, rfl, rfl⟩
    | 7, _ => exact ⟨_, rfl, rfl⟩
    | 8, _ => exact ⟨_, rfl, rfl⟩
    | 9, _ => exact ⟨_, rfl, rfl⟩
  · refine ⟨0, ?_, ?_⟩
    · have e9 : (a == 9) = false := by simp; omega
      rw [outcome_Op.f, if_neg (by omega), if_neg (by omega), if_neg (by omega), if_neg (by omega), if_neg (by omega), if_neg (by omega), if_neg (by omega), outcome_Op.j0, e9, if_neg (by decide), if_neg (by omega)]
    · rw [muleteerref28_Op.f, Option.bind_some]
      by_cases h0 : a < 0
      · rw [if_pos h0]
      · rw [if_neg h0, if_pos (by omega)]
theorem again_both (a : Int) : ∃ r, outcome_Again.f 1 a = some r ∧ muleteerref28_Again.f a = some r := by
  by_cases h : 0 ≤ a ∧ a ≤ 9
  · obtain ⟨k, rfl⟩ : ∃ k : Nat, a = k := ⟨a.toNat, by omega⟩
    have hk : k < 10 := by omega
    match k, hk with
    | 0, _ => exact ⟨_, rfl, rfl⟩
    | 1, _ => exact ⟨_, rfl, rfl⟩
    | 2, _ => exact ⟨_, rfl, rfl⟩
    | 3, _ => exact ⟨_, rfl, rfl⟩
    | 4, _ => exact ⟨_, rfl, rfl⟩
    | 5, _ => exact ⟨_, rfl, rfl⟩
    | 6, _ => exact ⟨_, rfl, rfl⟩
    | 7, _ => exact ⟨_, rfl, rfl⟩
    | 8, _ => exact ⟨_, rfl, rfl⟩
    | 9, _ => exact ⟨_, rfl, rfl⟩
  · refine ⟨false, ?_, ?_⟩
    · have e4 : (a == 4) = false := by simp; omega
      rw [outcome_Again.f, if_neg (by omega), if_neg (by omega), outcome_Again.j0, e4, if_neg (by decide), if_neg (by omega), if_neg (by omega), if_neg (by omega)]
    · rw [muleteerref28_Again.f]
      by_cases h0 : a ≥ 2
      · rw [if_pos h0, if_neg (by omega)]
      · rw [if_neg h0]
theorem rd_at (l : List Int) (j : Nat) (h : j < l.length) : rd l (j : Int) = l[j] := by
  rw [rd, Int.toNat_natCast, List.getD_eq_getElem?_getD, List.getElem?_eq_getElem h]; rfl
theorem wrap_small (x : Int) (h0 : -100000 ≤ x) (h1 : x ≤ 100000) : wrap64 x = x := by unfold wrap64; omega
theorem ref_eq (x : Int) (hx : x ≠ 0) (l : List Int) (hl : l.length ≤ 1000) : ∀ (m k j : Nat) (b : Bool), j + m = l.length → m + 1 ≤ k → muleteerref28_Of.l0 k x l b (j : Int) = some (if x = 13 then (if (b || decide (1 ∈ l.drop j)) = true then 2 else 3) else outOf (.code x) [])
  | 0, k + 1, j, b, hj, hk => by
    have hd : decide ((1 : Int) ∈ l.drop j) = false := by rw [List.drop_of_length_le (by omega)]; simp
    rw [muleteerref28_Of.l0, if_neg (by omega), if_neg hx, hd, Bool.or_false]
    by_cases h13 : x = 13
    · rw [if_pos h13, if_pos h13]
      cases b <;> rfl
    · rw [if_neg h13, if_neg h13]
      simp only [outOf, Leaf.is, beq_iff_eq, if_neg h13]
      repeat' (split <;> first | rfl | skip)
      all_goals first | rfl | omega
  | m + 1, k + 1, j, b, hj, hk => by
    have hjl : j < l.length := by omega
    have e1 : wrap64 ((j : Int) + 1) = ((j + 1 : Nat) : Int) := by rw [wrap_small _ (by omega) (by omega)]; omega
    rw [muleteerref28_Of.l0, if_pos (by omega), e1]
    have hd : decide ((1 : Int) ∈ l.drop j) = ((l[j] == 1) || decide ((1 : Int) ∈ l.drop (j + 1))) := by
      rw [List.drop_eq_getElem_cons hjl]
      generalize l[j] = z
      by_cases e2 : z = 1
      · subst e2; simp
      · have e3 : ¬ 1 = z := fun h => e2 h.symm
        simp [e2, e3]
    cases b with
    | true =>
      rw [if_pos rfl, ref_eq x hx l hl m k (j + 1) true (by omega) (by omega), Bool.true_or, Bool.true_or]
    | false =>
      rw [if_neg (by decide), if_pos (by omega), rd_at l j hjl, ref_eq x hx l hl m k (j + 1) _ (by omega) (by omega), hd, Bool.false_or]
theorem ref_all (x : Int) (hx : x ≠ 0) (l : List Int) (hl : l.length ≤ 1000) : muleteerref28_Of.f (l.length + 1) x l = some (outOf (.code x) l.reverse) := by
  have h := ref_eq x hx l hl l.length (l.length + 1) 0 false (by omega) (Nat.le_refl _)
  rw [show ((0 : Nat) : Int) = 0 from rfl] at h
  rw [muleteerref28_Of.f, h, List.drop_zero, Bool.false_or]
  by_cases h13 : x = 13
  · subst h13
    rw [if_pos rfl]
    have e1 : (Leaf.code 13).is 13 = true := rfl
    rw [outOf, if_pos e1]
    by_cases hm : (1 : Int) ∈ l
    · rw [if_pos (decide_eq_true hm), if_pos (List.mem_reverse.2 hm)]
    · rw [if_neg (by rw [decide_eq_false hm]; decide), if_neg (fun h => hm (List.mem_reverse.1 h))]
  · rw [if_neg h13]
    have e1 : ¬ (Leaf.code x).is 13 = true := by simp [Leaf.is, h13]
    rw [outOf, outOf, if_neg e1, if_neg e1]
set_option maxRecDepth 100000 in
set_option maxHeartbeats 1000000 in
theorem OutcomeOf_walk (x : Int) (A : Option Addr) (c : Nat) (l : List Int) (w : World) (hg : w.cell? ⟨0, 0, none⟩ = some (.iface 84 (.agg #[.pointer (some ⟨1, 26, none⟩)])))
    (hr : Kd.C (Kd.int .i64) w A l.length l) (hc : l.length ≤ c) : Calls Tryd.prog 7 #[.int .i64 x, .slice A l.length c] w fun e w' => e = .returned (.bool true) ∧ Below w.heap.size w w' := by
  have HA : Hid (∀ w1, Below w.heap.size w w1 → Calls Tryd.prog 27 #[] w1 fun e w' => e = .returned (.bool true) ∧ Below w1.heap.size w1 w') := Lib.hid (fun w1 hb => awake28_walk w1 ((hb.cell (cell_lt hg)).trans hg))
  have HB := Lib.hid (Below.refl w.heap.size w)
  by_cases h40 : l.length > 40
  · have hI : (40 : Int) < (l.length : Int) := by omega
    clear hr hc hg h40
    go_enter Tryd.func7, Tryd.ntmps7
    go_wp2_with (go_at_call 27; (with_reducible refine (HA.out _ HB.out).mono ?_); rintro e w1 ⟨rfl, hb1⟩; have HB := Lib.hid (below_step HB.out hb1); clear hb1)
    go_ret
    exact ⟨rfl, HB.out⟩
  · have hI : ¬ (40 : Int) < (l.length : Int) := by omega
    by_cases hx : x = 0
    · subst hx
      clear hr hc hg h40
      go_enter Tryd.func7, Tryd.ntmps7
      go_wp2_with (first
        | (go_at_call 27; (with_reducible refine (HA.out _ HB.out).mono ?_); rintro e w1 ⟨rfl, hb1⟩; have HB := Lib.hid (below_step HB.out hb1); clear hb1)
        | (go_at_call 10; (with_reducible refine (of_none _ _ _ _).mono ?_); rintro e w1 ⟨rfl, rfl⟩)
        | (go_at_call 28; (with_reducible refine (of28_none _).mono ?_); rintro e w1 ⟨rfl, rfl⟩))
      go_ret
      exact ⟨rfl, HB.out⟩
    · have e0 : (x == 0) = false := by simpa using hx
      have HO := Lib.hid (of_walk x hx A c l w hr (by omega))
      have HR := Lib.hid hr
      have HC := Lib.hid hc
      have HG := Lib.hid hg
      have href := ref_all x hx l (by omega)
      have HQ : Hid (∀ (w1 : World) (E : Value), EC w1 (.code x) E l.reverse → Below w.heap.size w w1 → Calls Tryd.prog 28 #[E] w1 fun e w' => e = .returned (.int .i64 (outOf (.code x) l.reverse)) ∧ Below w1.heap.size w1 w') := Lib.hid (fun w1 E hE hB => of28_walk (.code x) E _ w1 ((hB.cell (cell_lt hg)).trans hg) hE)
      obtain ⟨rv, hrv⟩ : ∃ rv, l.reverse = rv := ⟨_, rfl⟩
      rw [hrv] at HO href HQ
      generalize outOf (.code x) rv = q at href HQ
      obtain ⟨r1, ho1, ho2⟩ := op_both q
      obtain ⟨r2, ha1, ha2⟩ := again_both q
      have HRef := Lib.hid href
      have HO1 := Lib.hid ho1
      have HO2 := Lib.hid ho2
      have HA1 := Lib.hid ha1
      have HA2 := Lib.hid ha2
      clear hr hc hg h40 hrv href ho1 ho2 ha1 ha2 hx
      go_enter Tryd.func7, Tryd.ntmps7
      go_wp2_with (first
        | (go_at_call 27; (with_reducible refine (HA.out _ HB.out).mono ?_); rintro e w1 ⟨rfl, hb1⟩; have HB := Lib.hid (below_step HB.out hb1); clear hb1)
        | (go_at_call 10; (with_reducible refine HO.out.mono ?_); rintro e w1 ⟨E, rfl, hE, hb1⟩; have HB := Lib.hid (below_step HB.out hb1); have HE := Lib.hid hE; obtain ⟨u, v, rfl⟩ := hE.held; clear hb1 hE)
        | (go_at_call 28; (with_reducible refine (HQ.out _ _ HE.out HB.out).mono ?_); rintro e w1 ⟨rfl, hb1⟩; have HB := Lib.hid (below_step HB.out hb1); clear hb1)
        | (go_at_call 29; (with_reducible refine (muleteerref28_Of.calls _ x A c l q _ (Kd.C_below HR.out HB.out) HC.out HRef.out).mono ?_); rintro e w1 ⟨rfl, hb1⟩; have HB := Lib.hid (below_step HB.out hb1.below); clear hb1)
        | (go_at_call 30; (with_reducible refine (outcome_Op.calls 1 q r1 _ HO1.out).mono ?_); rintro e w1 ⟨rfl, hb1⟩; have HB := Lib.hid (below_step HB.out hb1.below); clear hb1)
        | (go_at_call 31; (with_reducible refine (muleteerref28_Op.calls q r1 _ HO2.out).mono ?_); rintro e w1 ⟨rfl, hb1⟩; have HB := Lib.hid (below_step HB.out hb1); clear hb1)
        | (go_at_call 32; (with_reducible refine (outcome_Again.calls 1 q r2 _ HA1.out).mono ?_); rintro e w1 ⟨rfl, hb1⟩; have HB := Lib.hid (below_step HB.out hb1.below); clear hb1)
        | (go_at_call 33; (with_reducible refine (muleteerref28_Again.calls q r2 _ HA2.out).mono ?_); rintro e w1 ⟨rfl, hb1⟩; have HB := Lib.hid (below_step HB.out hb1.below); clear hb1))
      go_ret
      exact ⟨rfl, HB.out⟩
end OutOf
end Go.Proofs.YtlnljnldpnhjiaaDoor.Hand
namespace Go.Proofs.YtlnljnldpnhjiaaDoor.Pure
open Go.RowKit Go.Proofs.YtlnljnldpnhjiaaDoorW.PrintWords Go.Proofs.YtlnljnldpnhjiaaDoor.Hand
theorem OutcomeOf (a0 : Int) (A1 : Option Addr) (c1 : Nat) (l1 : List Int) (w : World) (hg : w.cell? ⟨0, 0, none⟩ = some (.iface 84 (.agg #[.pointer (some ⟨1, 26, none⟩)])))
    (hr1 : Kd.C (Kd.int .i64) w A1 l1.length l1) (hc1 : l1.length ≤ c1) (_ : (Lit.int .i64 a0).wf = true) (_ : l1.length * 8 ≤ 140737488351232 ∧ ∀ x ∈ l1, (Lit.int .i64 x).wf = true) :
    Calls Tryd.prog 7 #[.int .i64 a0, .slice A1 l1.length c1] w fun e w' => e = .returned (.bool true) ∧ Below w.heap.size w w' :=
  OutOf.OutcomeOf_walk a0 A1 c1 l1 w hg hr1 hc1
end Go.Proofs.YtlnljnldpnhjiaaDoor.Pure
