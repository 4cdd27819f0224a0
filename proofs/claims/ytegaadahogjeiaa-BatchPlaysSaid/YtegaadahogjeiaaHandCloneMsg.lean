/- slices.Clone[[]muleteer/api.Msg,muleteer/api.Msg]: a list of one's own with the same elements. -/
import Derived.Test.YtegaadahogjeiaaHand0
namespace Go.Proofs.Ytegaadahogjeiaa.Hand
open Go.RowKit Go.Proofs.YtegaadahogjeiaaW.PrintWords Go.Proofs.YtegaadahogjeiaaW.PrintLast
set_option linter.unusedVariables false
set_option linter.unusedSimpArgs false
set_option maxHeartbeats 1000000 in
set_option maxRecDepth 100000 in
theorem cloneMsg_walk {α : Type} (d : Kd α) (z : Value) (sz bytes : Nat) (hsz : d.sz = sz) (hinfo : (Try.prog.info? 37).map (fun i => (i.zero, i.size, i.bytes)) = some (some z, sz, bytes)) (hz : z.cells.size = sz) (hs0 : 0 < sz) (hb0 : 0 < bytes)
    (hKM : ∀ w base ok x cs, d.K w x cs → d.M w base ok x cs) (A : Option Addr) (c : Nat) (l : List α) (w : World) (hr : Kd.C d w A l.length l) (hl : l.length * bytes ≤ 140737488355328) :
    Calls Try.prog 23 #[.slice A l.length c] w fun e w' => ∃ v0_ : Value, e = .returned v0_ ∧ Kd.R d 37 w' w.heap.size (fun _ => True) v0_ l ∧ Below w.heap.size w w' := by
  subst hsz
  have HR := Lib.hid hr
  have HI := Lib.hid hinfo
  have HZ := Lib.hid hz
  have HKM := Lib.hid hKM
  clear hr hinfo hz hKM
  rcases A with _ | ad
  · have h0 : l = [] := by
      rcases Nat.eq_zero_or_pos l.length with h | h
      · exact List.eq_nil_of_length_eq_zero h
      · obtain ⟨ad, h, _⟩ := HR.out.2.2 h
        cases h
    subst h0
    have hq := Lib.run_eql_slice_nil (P := Try.prog) w _ _ (none : Option Addr) 0 c 0 0 Try.underlying30
    go_enter Try.func23, Try.ntmps23
    go_wp2
    go_ret
    exact ⟨_, rfl, Kd.R_nil _ _ _ _ _, Below.refl _ _⟩
  · have hq := Lib.run_eql_slice_nil (P := Try.prog) w _ _ (some ad) l.length c 0 0 Try.underlying30
    have HO : Hid (d.R 37 (w.alloc (.cells #[] 37)) w.heap.size (fun _ => True) (.slice (some ⟨w.heap.size, 0, none⟩) 0 0) []) :=
      Lib.hid ⟨fun _ _ => trivial, [], by simpa using World.ownsRow_lit (base := w.heap.size) (e := 37) (size := d.sz) w #[] 0 (Nat.le_refl _) (by simp [maxLen]) (by simp), Reps.none _ _⟩
    go_enter Try.func23, Try.ntmps23
    go_wp2_with (first
      | (at_builtin; refine Kd.R_append_rows d (w0 := w) w.heap.size rfl (.tmp 5) (.tmp 6) 30 37 z bytes rfl Try.underlying30 HI.out HZ.out hs0 hb0 (.slice (some ⟨w.heap.size, 0, none⟩) 0 0) [] l (some ad) l.length c (fun _ => True) (fun k => some k ≠ (Value.slice (some ⟨w.heap.size, 0, none⟩) 0 0).ownBlock) rfl rfl HO.out (Kd.C_alloc HR.out _) (fun x cs h => HKM.out _ _ _ x cs h) (fun k hk => ⟨trivial, hk⟩) (fun _ _ => trivial) (below_alloc (Below.refl _ _) _) (by simp) (by simpa using hl) ?_; intro v1 w1 hown hbel _ _))
    go_ret
    exact ⟨_, rfl, by simpa using hown, hbel⟩
end Go.Proofs.Ytegaadahogjeiaa.Hand
