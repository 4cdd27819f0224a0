/- OutcomeTells: the walk of the law. -/
import Derived.Test.YtlnljnldpnhjiaaDoorPOutcomeTellsx1
import Derived.Test.YtlnljnldpnhjiaaDoorOutcome
namespace Go.Proofs.YtlnljnldpnhjiaaDoor.Hand
open Go.RowKit Go.Proofs.YtlnljnldpnhjiaaDoor.POutcomeTells Go.Proofs.YtlnljnldpnhjiaaDoorW.PrintWords Go.Proofs.YtlnljnldpnhjiaaDoorW.PrintLast
set_option linter.unusedVariables false
set_option linter.unusedSimpArgs false
namespace OutTells
theorem op_both (a : Int) : ∃ r, outcome_Op.f 1 a = some r ∧ muleteerref28_Op.f a = some r := by
  by_cases h : 0 ≤ a ∧ a ≤ 9
  · obtain ⟨k, rfl⟩ : ∃ k : Nat, a = k := ⟨a.toNat, by omega⟩
    have hk : k < 10 := by omega
    match k, hk with
    | 0, _ => exact ⟨_, rfl, rfl⟩
    | 1, _ => exact ⟨_, rfl, rfl⟩
    | 2, _ => exact ⟨_, rfl, rfl⟩
    | 3, _ => exact ⟨_, rfl, rfl⟩
    | 4, _ => exact ⟨_, rfl, rfl⟩
    | 5, _ => exact ⟨_, rfl, rfl⟩
    | 6, _ => exact ⟨_, rfl, rfl⟩
    | 7, _ => exact ⟨_, rfl, rfl⟩
    | 8, _ => exact ⟨_, rfl, rfl⟩
    | 9, _ => exact ⟨_, rfl, rfl⟩
  · refine ⟨0, ?_, ?_⟩
    · have e9 : (a == 9) = false := by simp; omega
      rw [outcome_Op.f, if_neg (by omega), if_neg (by omega), if_neg (by omega), if_neg (by omega), if_neg (by omega), if_neg (by omega), if_neg (by omega), outcome_Op.j0, e9, if_neg (by decide), if_neg (by omega)]
    · rw [muleteerref28_Op.f, Option.bind_some]
      by_cases h0 : a < 0
      · rw [if_pos h0]
      · rw [if_neg h0, if_pos (by omega)]
theorem again_both (a : Int) : ∃ r, outcome_Again.f 1 a = some r ∧ muleteerref28_Again.f a = some r := by
  by_cases h : 0 ≤ a ∧ a ≤ 9
  · obtain ⟨k, rfl⟩ : ∃ k : Nat, a = k := ⟨a.toNat, by omega⟩
    have hk : k < 10 := by omega
    match k, hk with
    | 0, _ => exact ⟨_, rfl, rfl⟩
    | 1, _ => exact ⟨_, rfl, rfl⟩
    | 2, _ => exact ⟨_, rfl, rfl⟩
    | 3, _ => exact ⟨_, rfl, rfl⟩
    | 4, _ => exact ⟨_, rfl, rfl⟩
    | 5, _ => exact ⟨_, rfl, rfl⟩
    | 6, _ => exact ⟨_, rfl, rfl⟩
    | 7, _ => exact ⟨_, rfl, rfl⟩
    | 8, _ => exact ⟨_, rfl, rfl⟩
    | 9, _ => exact ⟨_, rfl, rfl⟩
  · refine ⟨false, ?_, ?_⟩
    · have e4 : (a == 4) = false := by simp; omega
      rw [outcome_Again.f, if_neg (by omega), if_neg (by omega), outcome_Again.j0, e4, if_neg (by decide), if_neg (by omega), if_neg (by omega), if_neg (by omega)]
    · rw [muleteerref28_Again.f]
      by_cases h0 : a ≥ 2
      · rw [if_pos h0, if_neg (by omega)]
      · rw [if_neg h0]
theorem refName_eq (p : Int) : muleteerref28_Name.f p = some (outName p) := by
  unfold muleteerref28_Name.f outName
  by_cases h0 : p < 0
  · simp only [Option.bind_some, if_pos h0, if_neg (show ¬(0 ≤ p ∧ p < 10) by omega)]
  · by_cases h9 : p > 9
    · simp only [Option.bind_some, if_neg h0, if_pos h9, if_neg (show ¬(0 ≤ p ∧ p < 10) by omega)]
    · obtain ⟨k, rfl⟩ : ∃ k : Nat, p = k := ⟨p.toNat, by omega⟩
      have hk : k < 10 := by omega
      simp only [Option.bind_some, if_neg h0, if_neg h9, if_pos (show (0 : Int) ≤ (k : Int) by omega), if_pos (show (0 ≤ (k : Int) ∧ (k : Int) < 10) by omega)]
      rw [if_pos (by simp; omega)]
      match k, hk with
      | 0, _ => rfl
      | 1, _ => rfl
      | 2, _ => rfl
      | 3, _ => rfl
      | 4, _ => rfl
      | 5, _ => rfl
      | 6, _ => rfl
      | 7, _ => rfl
      | 8, _ => rfl
      | 9, _ => rfl
set_option maxRecDepth 100000 in
set_option maxHeartbeats 1000000 in
theorem OutcomeTells_walk (q : Int) (s : ByteArray) (w : World) (hg : w.cell? ⟨0, 0, none⟩ = some (.iface 84 (.agg #[.pointer (some ⟨1, 26, none⟩)]))) :
    Calls Tryd.prog 8 #[.int .i64 q, .string s] w fun e w' => e = .returned (.bool true) ∧ Below w.heap.size w w' := by
  have HA : Hid (∀ w1, Below w.heap.size w w1 → Calls Tryd.prog 27 #[] w1 fun e w' => e = .returned (.bool true) ∧ Below w1.heap.size w1 w') := Lib.hid (fun w1 hb => awake28_walk w1 ((hb.cell (cell_lt hg)).trans hg))
  have HB := Lib.hid (Below.refl w.heap.size w)
  by_cases h100 : s.size > 100
  · have hI : (100 : Int) < (s.size : Int) := by omega
    clear hg h100
    go_enter Tryd.func8, Tryd.ntmps8
    go_wp2_with (go_at_call 27; (with_reducible refine (HA.out _ HB.out).mono ?_); rintro e w1 ⟨rfl, hb1⟩; have HB := Lib.hid (below_step HB.out hb1); clear hb1)
    go_ret
    exact ⟨rfl, HB.out⟩
  · have hI : ¬ (100 : Int) < (s.size : Int) := by omega
    have HQ : Hid (∀ (w1 : World) (a : Nat), Below w.heap.size w w1 → Calls Tryd.prog 28 #[(Leaf.text a).val] w1 fun e w' => e = .returned (.int .i64 9) ∧ Below w1.heap.size w1 w') := Lib.hid (fun w1 a hB => of28_walk (.text a) _ [] w1 ((hB.cell (cell_lt hg)).trans hg) rfl)
    have hnm := refName_eq q
    have HN1 := Lib.hid (oname_walk q)
    generalize outName q = nm at hnm HN1
    obtain ⟨r1, ho1, ho2⟩ := op_both q
    obtain ⟨r2, ha1, ha2⟩ := again_both q
    have HNm := Lib.hid hnm
    have HO1 := Lib.hid ho1
    have HO2 := Lib.hid ho2
    have HA1 := Lib.hid ha1
    have HA2 := Lib.hid ha2
    clear hg h100 hnm ho1 ho2 ha1 ha2
    go_enter Tryd.func8, Tryd.ntmps8
    go_wp2_with (first
      | (go_at_call 27; (with_reducible refine (HA.out _ HB.out).mono ?_); rintro e w1 ⟨rfl, hb1⟩; have HB := Lib.hid (below_step HB.out hb1); clear hb1)
      | (go_at_call 22; (with_reducible refine (enew_walk s _).mono ?_); rintro e w1 ⟨rfl, hb1⟩; have HB := Lib.hid (below_step HB.out hb1); clear hb1)
      | (go_at_call 28; (with_reducible refine (of28_none _).mono ?_); rintro e w1 ⟨rfl, rfl⟩)
      | (go_at_call 28; refine (HQ.out _ _ HB.out).mono ?_; rintro e w1 ⟨rfl, hb1⟩; have HB := Lib.hid (below_step HB.out hb1); clear hb1)
      | (go_at_call 34; (with_reducible refine (HN1.out _).mono ?_); rintro e w1 ⟨rfl, hb1⟩; have HB := Lib.hid (below_step HB.out hb1); clear hb1)
      | (go_at_call 35; (with_reducible refine (muleteerref28_Name.calls q nm _ HNm.out).mono ?_); rintro e w1 ⟨rfl, hb1⟩; have HB := Lib.hid (below_step HB.out hb1); clear hb1)
      | (go_at_call 30; (with_reducible refine (outcome_Op.calls 1 q r1 _ HO1.out).mono ?_); rintro e w1 ⟨rfl, hb1⟩; have HB := Lib.hid (below_step HB.out hb1.below); clear hb1)
      | (go_at_call 31; (with_reducible refine (muleteerref28_Op.calls q r1 _ HO2.out).mono ?_); rintro e w1 ⟨rfl, hb1⟩; have HB := Lib.hid (below_step HB.out hb1); clear hb1)
      | (go_at_call 32; (with_reducible refine (outcome_Again.calls 1 q r2 _ HA1.out).mono ?_); rintro e w1 ⟨rfl, hb1⟩; have HB := Lib.hid (below_step HB.out hb1.below); clear hb1)
      | (go_at_call 33; (with_reducible refine (muleteerref28_Again.calls q r2 _ HA2.out).mono ?_); rintro e w1 ⟨rfl, hb1⟩; have HB := Lib.hid (below_step HB.out hb1.below); clear hb1))
    go_ret
    exact ⟨rfl, HB.out⟩
end OutTells
end Go.Proofs.YtlnljnldpnhjiaaDoor.Hand
namespace Go.Proofs.YtlnljnldpnhjiaaDoor.Pure
open Go.RowKit Go.Proofs.YtlnljnldpnhjiaaDoorW.PrintWords Go.Proofs.YtlnljnldpnhjiaaDoor.Hand
theorem OutcomeTells (a0 : Int) (s : ByteArray) (w : World) (hg : w.cell? ⟨0, 0, none⟩ = some (.iface 84 (.agg #[.pointer (some ⟨1, 26, none⟩)]))) (_ : (Lit.int .i64 a0).wf = true) (_ : s.size ≤ 140737488351232) :
    Calls Tryd.prog 8 #[.int .i64 a0, .string s] w fun e w' => e = .returned (.bool true) ∧ Below w.heap.size w w' :=
  OutTells.OutcomeTells_walk a0 s w hg
end Go.Proofs.YtlnljnldpnhjiaaDoor.Pure
