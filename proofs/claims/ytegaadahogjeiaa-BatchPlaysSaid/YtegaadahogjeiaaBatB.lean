/- Has of the document's batch, both Adds, All. -/
import Derived.Test.YtegaadahogjeiaaBatA
namespace Go.Proofs.Ytegaadahogjeiaa.Hand
open Go.RowKit Go.Proofs.Ytegaadahogjeiaa.PBatchPlays Go.Proofs.YtegaadahogjeiaaW.PrintWords Go.Proofs.YtegaadahogjeiaaW.PrintLast Go.Proofs.YtegaadahogjeiaaW.PrintMore
attribute [local go_sem] max2_int min2_int max_two min_two max_three min_three max_four min_four
attribute [local go_sem high] eqA37
set_option linter.unusedVariables false
set_option linter.unusedSimpArgs false
theorem hasM_take (l : List S37) (m : S37) (k : Nat) (h : k < l.length) : hasM (l.take (k + 1)) m = (hasM (l.take k) m || hit m (rd_T37 l k)) := by
  rw [hasM, List.take_succ_eq_append_getElem h, List.any_append, rdT_at l k h]
  simp [hasM]
set_option maxHeartbeats 1000000 in
set_option maxRecDepth 100000 in
theorem rhas_walk (b : Nat) (size wait first : Int) (A : Option Addr) (c : Nat) (l : List S37) (m : S37) (hl : l.length ≤ 100) (hc : l.length ≤ c) (w : World) (hr : Kd.C k37 w A l.length l) (hb : w.heap[b]? = some (.cells #[.int .i64 size, .int .i64 wait, .int .u64 first, .slice A l.length c] 32 (0, 0))) :
    Calls Try.prog 15 #[.pointer (some ⟨b, 0, none⟩), .agg #[.int .i64 m.f0, .int .i64 m.f1.f0, .int .i64 m.f1.f1, .int .u64 m.f1.f2, .int .u64 m.f1.f3, .string m.f1.f4, .string m.f2]] w fun e w' => e = .returned (.bool (hasM l m)) ∧ Below w.heap.size w w' := by
  obtain ⟨m0, ⟨m1, m2, m3, m4, m5⟩, m6⟩ := m
  dsimp only
  obtain ⟨m, hm⟩ : ∃ m, (⟨m0, ⟨m1, m2, m3, m4, m5⟩, m6⟩ : S37) = m := ⟨_, rfl⟩
  rw [hm]
  have HM := Lib.hid hm
  obtain ⟨R, hR⟩ : ∃ R, hasM l m = R := ⟨_, rfl⟩
  rw [hR]
  have HRR := Lib.hid hR
  have k3 : w.cell? ⟨b, 3, none⟩ = some (.slice A l.length c) := blk_cell hb 3
  have hb1 := below_alloc (Below.refl w.heap.size w) (.cells #[.int .i64 m0, .int .i64 m1, .int .i64 m2, .int .u64 m3, .int .u64 m4, .string m5, .string m6] 37)
  have hbx := blk_new w (.cells #[.int .i64 m0, .int .i64 m1, .int .i64 m2, .int .u64 m3, .int .u64 m4, .string m5, .string m6] 37)
  have k3' := (hb1.cell (cell_lt k3)).trans k3
  have HR1 := Lib.hid (Kd.C_below hr hb1)
  have HB := Lib.hid hb1
  clear hr hc hb hb1 k3 hm hR
  go_enter Try.func15, Try.ntmps15
  go_upto_region 1 with (fail)
  generalize w.alloc _ = w1 at hbx k3' HR1 HB ⊢
  generalize w.heap.size = bx at hbx ⊢
  have x0 := blk_cell hbx 0
  have x1 := blk_cell hbx 1
  have x2 := blk_cell hbx 2
  have x3 := blk_cell hbx 3
  have x4 := blk_cell hbx 4
  have x5 := blk_cell hbx 5
  have x6 := blk_cell hbx 6
  clear hbx
  go_wp2_with fail
  go_loopw [5] (fun v5 wr => ∃ k nn : Nat, k ≤ l.length ∧ v5 = .int .i64 k ∧ Hid (hasM (l.take k) m = false) ∧ wr = w1.drewN nn) (fun v5 _ => 1000 - (intOf v5).toNat)
  case atStart => exact ⟨0, 0, Nat.zero_le _, rfl, Lib.hid rfl, rfl⟩
  case round =>
    obtain ⟨k, nn, hk, rfl, HN, rfl⟩ := hrel
    have hk100 : (k : Int) ≤ 100 := by omega
    by_cases h : k < l.length
    · have hlt : (k : Int) < (l.length : Int) := by omega
      have hk0 : (0 : Int) ≤ (k : Int) := by omega
      have hn := hasM_take l m k h
      rw [HN.out, Bool.false_or] at hn
      obtain ⟨ad, rfl, y0, y1, y2, y3, y4, y5, y6⟩ := at_T37 HR1.out k hk0 hlt
      rw [Int.toNat_natCast] at y0 y1 y2 y3 y4 y5 y6
      have hmem : hit m (rd_T37 l k) = true → hasM l m = true := fun h1 => by
        rw [rdT_at l k h] at h1
        exact List.any_eq_true.2 ⟨_, List.getElem_mem h, h1⟩
      generalize rd_T37 l k = x at y0 y1 y2 y3 y4 y5 y6 hn hmem
      obtain ⟨z0, ⟨z1, z2, z3, z4, z5⟩, z6⟩ := x
      dsimp only at y0 y1 y2 y3 y4 y5 y6
      have hh : hit m ⟨z0, ⟨z1, z2, z3, z4, z5⟩, z6⟩ = (z0 == m0 && ((z1 == m1 && (z2 == m2 && (z3 == m3 && (z4 == m4 && (z5.toList == m5.toList))))) && (z6.toList == m6.toList))) := by rw [← HM.out]; rfl
      rw [hh] at hn hmem
      have HNN := Lib.hid hn
      have HMM := Lib.hid hmem
      clear hn hmem hh
      by_cases e : (z0 == m0 && ((z1 == m1 && (z2 == m2 && (z3 == m3 && (z4 == m4 && (z5.toList == m5.toList))))) && (z6.toList == m6.toList))) = true
      · have hRt : R = true := by rw [← HRR.out]; exact HMM.out e
        subst hRt
        go_wp2
        go_quiet (fail)
        go_wp2
        go_ret
        exact ⟨rfl, by repeat (first | exact HB.out | apply pw_below_drewN | apply below_drew1)⟩
      · have e' : (z0 == m0 && ((z1 == m1 && (z2 == m2 && (z3 == m3 && (z4 == m4 && (z5.toList == m5.toList))))) && (z6.toList == m6.toList))) = false := Bool.eq_false_iff.2 e
        clear e
        go_wp2
        go_quiet (fail)
        go_wp2
        go_roundw
        case rel => exact ⟨k + 1, _, h, by go_num, Lib.hid (HNN.out.trans e'), by first | rfl | rw [World.drewN_drewN]⟩
        case measure => simp [intOf]; omega
    · have hge : ¬ (k : Int) < (l.length : Int) := by omega
      have hkk : k = l.length := by omega
      subst hkk
      have hRf : R = false := by rw [← HRR.out]; have := HN.out; rwa [List.take_length] at this
      subst hRf
      go_wp2
      go_ret
      exact ⟨rfl, by repeat (first | exact HB.out | apply pw_below_drewN | apply below_drew1)⟩

end Go.Proofs.Ytegaadahogjeiaa.Hand
