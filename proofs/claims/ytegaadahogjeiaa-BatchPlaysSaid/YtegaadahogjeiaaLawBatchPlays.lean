/- Written for this claim by a program of the session (wip/tools/inject.py) over the kit's print; what is proved by hand is imported. -/
import Derived.Test.YtegaadahogjeiaaRows
import Derived.Test.YtegaadahogjeiaaOpens
import Derived.Test.YtegaadahogjeiaaPBatchPlaysx
import Derived.Test.YtegaadahogjeiaaPureBatchPlays
import Derived.WalkKit
import Derived.ProofKit
import Derived.OpenShut
import Derived.ShutString
import Derived.ChangeOld
import Derived.Below
import Derived.SizedLaws
namespace Go.Proofs.Ytegaadahogjeiaa.batchPlays
open Go.ChangeShapes Go.WideShapes Go.ChangeAt Go.RowKit Go.Proofs.Ytegaadahogjeiaa.PBatchPlays Go.Proofs.YtegaadahogjeiaaW.PrintWords
open Go.ChangeMaps (open_string shut_string)
set_option linter.unusedVariables false
theorem own : ownKnob Try.prog.godebug = none := by kernel_rfl
theorem laidOut : laidOutB Try.prog = true := by kernel_rfl
def ok35 (x : S35) : Prop := (Lit.int .i64 x.f0).wf = true ∧ (Lit.int .i64 x.f1).wf = true ∧ (Lit.int .u64 x.f2).wf = true ∧ (Lit.int .u64 x.f3).wf = true ∧ x.f4.size ≤ 140737488351232
theorem opens35 : Opens.Opens Try.prog 35 k35 ok35 :=
  Opens.opens_struct (fun p => (⟨p.1, p.2.1, p.2.2.1, p.2.2.2.1, p.2.2.2.2⟩ : S35)) (fun _ => rfl) Try.underlying35 (by kernel_rfl) (Opens.opensF_cons rfl (by kernel_rfl) (Opens.opens_int Try.underlying3) (Opens.opensF_cons rfl (by kernel_rfl) (Opens.opens_int Try.underlying3) (Opens.opensF_cons rfl (by kernel_rfl) (Opens.opens_int Try.underlying29) (Opens.opensF_cons rfl (by kernel_rfl) (Opens.opens_int Try.underlying29) (Opens.opensF_one rfl (by kernel_rfl) (Opens.opens_string Try.underlying9))))))
def ok37 (x : S37) : Prop := (Lit.int .i64 x.f0).wf = true ∧ ((Lit.int .i64 x.f1.f0).wf = true ∧ (Lit.int .i64 x.f1.f1).wf = true ∧ (Lit.int .u64 x.f1.f2).wf = true ∧ (Lit.int .u64 x.f1.f3).wf = true ∧ x.f1.f4.size ≤ 140737488351232) ∧ x.f2.size ≤ 140737488351232
theorem opens37 : Opens.Opens Try.prog 37 k37 ok37 :=
  Opens.opens_struct (fun p => (⟨p.1, p.2.1, p.2.2⟩ : S37)) (fun _ => rfl) Try.underlying37 (by kernel_rfl) (Opens.opensF_cons rfl (by kernel_rfl) (Opens.opens_int Try.underlying3) (Opens.opensF_cons rfl (by kernel_rfl) opens35 (Opens.opensF_one rfl (by kernel_rfl) (Opens.opens_string Try.underlying9))))
def ok39 (x : S39) : Prop := (Lit.int .u8 x.f0).wf = true ∧ ((Lit.int .i64 x.f1.f0).wf = true ∧ ((Lit.int .i64 x.f1.f1.f0).wf = true ∧ (Lit.int .i64 x.f1.f1.f1).wf = true ∧ (Lit.int .u64 x.f1.f1.f2).wf = true ∧ (Lit.int .u64 x.f1.f1.f3).wf = true ∧ x.f1.f1.f4.size ≤ 140737488351232) ∧ x.f1.f2.size ≤ 140737488351232) ∧ (Lit.int .u64 x.f2).wf = true
theorem opens39 : Opens.Opens Try.prog 39 k39 ok39 :=
  Opens.opens_struct (fun p => (⟨p.1, p.2.1, p.2.2⟩ : S39)) (fun _ => rfl) Try.underlying39 (by kernel_rfl) (Opens.opensF_cons rfl (by kernel_rfl) (Opens.opens_int Try.underlying5) (Opens.opensF_cons rfl (by kernel_rfl) opens37 (Opens.opensF_one rfl (by kernel_rfl) (Opens.opens_int Try.underlying29))))
set_option maxRecDepth 100000 in
theorem lifted (os : Os) (started : os.Started) (H : Type) (enc : TypeId × Value → H) :
    ReturnsInHanded {} Try.checked os 3 .any (Rows.batchPlaysSpec.pre6 enc Try.prog Try.f3 Rows.batchPlaysRow.domain false) (Rows.batchPlaysSpec.post enc Try.prog Try.f3 false true false false) := by
  refine returnsInHanded_of_change_sized (C := Try.checked) own started (by kernel_rfl) Try.func3
    (ChangeSpec.witness6 (enc := enc) (C := Try.checked) false ⟨#[], #[.int .i64 0, .int .i64 0, .slice none 0 0], []⟩ 8 (by kernel_rfl) (by kernel_rfl) (by kernel_rfl) (by kernel_rfl)) ?_
  intro W base args ds gs before hval0 hW hcnd hsz0 _
  have hsz : (DataW.weightsEach Try.prog (Try.f3.params.toList ++ Rows.batchPlaysSpec.plain.varTypes Try.prog) (ds ++ gs)).all (· ≤ reachBytes) = true := hsz0
  have hval : ∀ (j : Nat) t v, Try.f3.params[j]? = some t → args[j]? = some v → Value.okWide Try.prog W .any base t v := hval0
  have hW' := hW
  obtain ⟨p, q, hA0, hV, rfl, hfz, hnd⟩ := hW
  have hA : DataW.TrodAll enc Try.prog W 0 (fun _ => true) true Try.f3.params.toList args.toList ds p := hA0
  rw [Try.params3] at hA hval hsz
  obtain ⟨v0, vs0, d0, ds0, p0, q0, hargs, rfl, rfl, h0, r0⟩ := trodAll_cons hA
  obtain ⟨v1, vs1, d1, ds1, p1, q1, rfl, rfl, rfl, h1, r1⟩ := trodAll_cons r0
  obtain ⟨v2, vs2, d2, ds2, p2, q2, rfl, rfl, rfl, h2, r2⟩ := trodAll_cons r1
  obtain ⟨rfl, rfl, rfl⟩ := trodAll_nil r2
  obtain rfl : args = #[v0, v1, v2] := by cases args; simp_all
  obtain ⟨rfl, rfl⟩ := trodVars_none hV
  obtain ⟨a0, rfl, rfl, rfl, w0⟩ := open_int Try.underlying3 (hval 0 3 v0 rfl rfl) h0
  obtain ⟨a1, rfl, rfl, rfl, w1⟩ := open_int Try.underlying3 (hval 1 3 v1 rfl rfl) h1
  have k2 := h2
  have lt2 : ∀ x ∈ p2, x.block < W.heap.size := by obtain ⟨m, hm⟩ := k2; exact DataW.trod_lt m _ _ _ hm
  obtain ⟨A2, c2, l2, rfl, hc2, hr2, w2⟩ := Opens.arg_slice (Opens.opens_slice Try.underlying22 (by kernel_rfl) (bytes := 88) (by kernel_rfl) opens39) Try.underlying22 (hval 2 22 v2 rfl rfl) h2 (Opens.weigh hsz (j := 2) rfl rfl)
  clear hA0 hval0 hsz0 hsz
  refine (Pure.BatchPlays a0 a1 A2 c2 l2 W hr2 hc2 w0 w1 w2).mono fun e W' ⟨he, bel⟩ => ?_
  subst he
  exact ⟨_, rfl, _, _, _, [], _, [], hW', trodAll_mk1 (shut_bool Try.underlying4 _), (trodAll_cons_mk (shut_int Try.underlying3 w0) (trodAll_cons_mk (shut_int Try.underlying3 w1) (trodAll_cons_mk (Below.trod laidOut (by kernel_rfl) (of_decide_eq_true (by kernel_rfl)) k2 bel lt2) trodAll_mk0))), rfl, bel.frame _, fun h => by cases h⟩
theorem over : Rows.batchPlaysRow.holds Try.pinned (OpenSpec.ofChange Rows.batchPlaysSpec) :=
  OpenClaim.holds_of_wide 3 Try.f3 rfl rfl rfl rfl rfl rfl rfl ⟨rfl, rfl, rfl, rfl, rfl⟩ rfl rfl rfl rfl rfl (by kernel_rfl) Try.func3 (by kernel_rfl)
    (of_decide_eq_true (by kernel_rfl)) (by unfold Func.isWrapper; first | (rw [if_pos (by decide +kernel)]; kernel_rfl) | (rw [if_neg (by decide +kernel)]; exact ⟨rfl, rfl⟩))
    (fun os started H enc _ => lifted os started H enc)
theorem proved : Rows.BatchPlaysSaid := over
#print axioms proved
end Go.Proofs.Ytegaadahogjeiaa.batchPlays
namespace Go.Proofs.Ytegaadahogjeiaa
/-- The row, under a short name, for the claim. -/
theorem batchPlays_holds : Rows.BatchPlaysSaid := batchPlays.proved
end Go.Proofs.Ytegaadahogjeiaa
