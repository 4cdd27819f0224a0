/- slices.Contains at []int, over any row that can be read; picks.Missing: who is not in a row. (Under way.) -/
import Derived.Test.YthbjbjlfliogmaaHand0
import Derived.Test.YthbjbjlfliogmaaHandShelf
import Derived.Test.YthbjbjlfliogmaaHandCloneInt
import Derived.Lib.RowBridge
namespace Go.Proofs.Ythbjbjlfliogmaa.Hand
open Go.RowKit Go.Proofs.YthbjbjlfliogmaaW.PrintWords Go.Proofs.YthbjbjlfliogmaaW.PrintLast
set_option linter.unusedVariables false
set_option linter.unusedSimpArgs false
set_option maxHeartbeats 1000000
set_option maxRecDepth 100000
theorem index_walk (A : Option Addr) (c : Nat) (l : List Int) (x : Int) (w : World) (hr : Kd.C (Kd.int .i64) w A l.length l) (hl : l.length ≤ 1000000) :
    Calls Try.prog 96 #[.slice A l.length c, .int .i64 x] w fun e w' => (∃ t : Int, e = .returned (.int .i64 t) ∧ (t ≥ 0 ↔ x ∈ l)) ∧ Drawn0 w w' := by
  have HR := Lib.hid hr
  clear hr
  go_enter Try.func96, Try.ntmps96
  go_wp2
  go_loopw [8] (fun v8 wr => ∃ j : Nat, j ≤ l.length ∧ v8 = .int .i64 j ∧ Hid (¬ x ∈ l.take j) ∧ wr = w) (fun v8 _ => l.length - (intOf v8).toNat)
  case atStart => exact ⟨0, by omega, rfl, Lib.hid (by simp), rfl⟩
  case round =>
    obtain ⟨j, hj, rfl, HN, rfl⟩ := hrel
    by_cases h : j < l.length
    · have hlt : (j : Int) < (l.length : Int) := by omega
      obtain ⟨ad, c0, rfl, hcl, hK, hcc⟩ := Kd.C_get HR.out 0 j (by omega) (by omega)
      have hK' : c0 = [.int .i64 (l.getD j 0)] := hK
      subst hK'
      have hcell : wr.cell? (ad.add j) = some (.int .i64 (l.getD j 0)) := by have := hcc 0 _ rfl; simpa [Kd.int, Kd.scalar] using this
      have hg : l.getD j 0 = l[j] := by rw [List.getD_eq_getElem?_getD, List.getElem?_eq_getElem h, Option.getD_some]
      obtain ⟨y, hy⟩ : ∃ y, l[j] = y := ⟨_, rfl⟩
      rw [hg, hy] at hcell
      have HY := Lib.hid hy
      clear hg hy hcc hK hcl
      by_cases e : x = y
      · have eb : (x == y) = true := by simpa using e
        subst e
        go_wp2
        go_ret
        exact ⟨⟨j, rfl, ⟨fun _ => by have := HY.out; rw [← this]; exact List.getElem_mem h, fun _ => by omega⟩⟩, Drawn0.refl _⟩
      · have eb : (x == y) = false := by simpa using e
        go_wp2
        go_roundw
        case rel =>
          refine ⟨j + 1, by omega, by go_num, Lib.hid ?_, trivial⟩
          rw [List.take_succ_eq_append_getElem h, List.mem_append, HY.out]
          rintro (h1 | h1)
          · exact HN.out h1
          · exact e (by simpa using h1)
        case measure => simp [intOf]; omega
    · have hge : ¬ (j : Int) < (l.length : Int) := by omega
      go_wp2
      go_ret
      refine ⟨⟨-1, rfl, ⟨fun h => absurd h (by omega), fun h => absurd h ?_⟩⟩, Drawn0.refl _⟩
      have := HN.out
      rwa [List.take_of_length_le (by omega)] at this
theorem contains_walk (A : Option Addr) (c : Nat) (l : List Int) (x : Int) (w : World) (hr : Kd.C (Kd.int .i64) w A l.length l) (hl : l.length ≤ 1000000) :
    Calls Try.prog 73 #[.slice A l.length c, .int .i64 x] w fun e w' => e = .returned (.bool (decide (x ∈ l))) ∧ Drawn0 w w' := by
  have HR := Lib.hid hr
  clear hr
  go_enter Try.func73, Try.ntmps73
  go_wp2_with (first
    | (go_at_call 96; refine (index_walk _ c l x _ HR.out hl).mono ?_; rintro e w1 ⟨⟨t, rfl, ht⟩, ⟨m, rfl⟩⟩; have hb := Lib.hid ht; clear ht))
  go_ret
  exact ⟨congrArg (fun b => Ending.returned (Value.bool b)) (decide_eq_decide.2 (by simpa using hb.out)), by repeat (first | exact Drawn0.refl _ | apply Drawn0.step)⟩
/-- The closure of picks.Missing: whether a number is in the row that it holds. -/
theorem missing1_walk (B : Nat) (A : Option Addr) (c : Nat) (row : List Int) (x : Int) (w : World) (hc : w.cell? ⟨B, 0, none⟩ = some (.slice A row.length c)) (hr : Kd.C (Kd.int .i64) w A row.length row) (hl : row.length ≤ 1000000) :
    Calls Try.prog 77 #[.int .i64 x, .pointer (some ⟨B, 0, none⟩)] w fun e w' => e = .returned (.bool (decide (x ∈ row))) ∧ Drawn0 w w' := by
  have HR := Lib.hid hr
  clear hr
  go_enter Try.func77, Try.ntmps77
  go_wp2_with (first
    | (go_at_call 73; refine (contains_walk _ c row x _ HR.out hl).mono ?_; rintro e w1 ⟨rfl, ⟨m, rfl⟩⟩))
  go_ret
  exact ⟨rfl, by repeat (first | exact Drawn0.refl _ | apply Drawn0.step)⟩
theorem below_sort {w0 w : World} {g : Nat} {d dk : Array Int} (q : Nat) (os : Array Obj) (h0 : Below w0.heap.size w0 w) (hg : w0.heap.size ≤ g) (hH : Sort.Holds (Value.int .i64) w g 0 d) (hs : dk.size = d.size) : Below w0.heap.size w0 (Go.Proofs.sortWorld (Value.int .i64) w g 0 q dk os) := by
  have e := Lib.putRow_eq_setCells (Value.int .i64) w g 0 d dk.toList q hH (by simpa using hs)
  have e' : dk.toList.toArray = dk := by simp
  rw [e'] at e
  unfold Go.Proofs.sortWorld
  rw [e]
  have hsm := setCells_same g (dk.toList.map (Value.int .i64)) 0 (w.drewN q)
  refine ⟨?_, ?_, ?_, ?_, fun k hk => ?_⟩
  · exact hsm.1.trans h0.os
  · exact hsm.2.1.trans h0.tape
  · exact hsm.2.2.1.trans h0.output
  · show w0.heap.size ≤ (((w.drewN q).setCells g 0 (dk.toList.map (Value.int .i64))).heap ++ os).size
    rw [Array.size_append, hsm.2.2.2]
    have := h0.size
    exact Nat.le_trans this (Nat.le_add_right _ _)
  · have hk' : k < ((w.drewN q).setCells g 0 (dk.toList.map (Value.int .i64))).heap.size := by rw [hsm.2.2.2]; exact Nat.lt_of_lt_of_le hk h0.size
    show (((w.drewN q).setCells g 0 (dk.toList.map (Value.int .i64))).heap ++ os)[k]? = _
    rw [Array.getElem?_append_left hk', setCells_far _ 0 k (by omega)]
    exact h0.block k hk
theorem drawn_fn {w w' : World} (h : Drawn0 w w') : ∃ q, w' = w.drewN q := by obtain ⟨n, rfl⟩ := h; exact ⟨n, rfl⟩
theorem deletefunc_walk (g n c base B : Nat) (L row : List Int) (A : Option Addr) (cr : Nat) (w0 w : World) (h : Kd.R (Kd.int .i64) 3 w base (fun _ => True) (.slice (some ⟨g, 0, none⟩) n c) L) (hb : w0.heap.size ≤ base) (h0 : Below w0.heap.size w0 w)
    (hr : Kd.C (Kd.int .i64) w0 A row.length row) (hrl : row.length ≤ 1000000) (hBg : B ≠ g) (hB : w.cell? ⟨B, 0, none⟩ = some (.slice A row.length cr)) (hBs : B < w.heap.size) :
    Calls Try.prog 75 #[.slice (some ⟨g, 0, none⟩) n c, .func (.func 77) #[] #[.pointer (some ⟨B, 0, none⟩)]] w fun e w' => ∃ v, e = .returned v ∧ Kd.R (Kd.int .i64) 3 w' base (fun _ => True) v (L.filter (fun x => !decide (x ∈ row))) ∧ Below base w w' := by
  have ho := Kd.own_of_R h
  have hml : n = L.length := (Kd.R_reads' h).1
  subst hml
  rcases ho.2 with ⟨hv, _⟩ | ⟨g', cap, cur, hv, hbg, hh, hnc, hcm, hcs, hct⟩
  · cases hv
  injection hv with ha _ hc
  injection ha with ha
  injection ha with hg'
  subst hg'; subst hc
  have hcell : ∀ j, j < L.length → w.cell? ⟨g, 0 + j, none⟩ = some (.int .i64 (L.getD j 0)) := by
    intro j hj
    rw [Nat.zero_add, blk_cell hh j]
    have h3 : (cur.toList.take (L.length * 1))[j]? = (encs (Value.int .i64) L)[j]? := by rw [hct]
    rw [List.getElem?_take_of_lt (by omega), Array.getElem?_toList, encs_get L j hj (d := 0)] at h3
    exact h3
  have hfz : ∀ j, j < L.length → w.frozen? ⟨g, 0 + j, none⟩ = false := fun j _ => blk_frozen hh _
  have hH : Sort.Holds (Value.int .i64) w g 0 L.toArray := by
    have := Lib.holds_of_ints (b := g) (off := 0) (n := L.length) (zs := L) (Nat.le_refl _) hcell hfz
    rwa [List.take_length] at this
  have hgl : g < w.heap.size := blk_lt hh
  have hm : maxLen ≤ 9223372036854775807 := by decide
  have eg : ∀ args w, (callFunc 77 args).run Try.prog w = .ok (.enter 77 args) w := Go.Proofs.enters_of Try.func77 (by kernel_rfl) rfl
  have hPA : PredAt Try.prog 77 #[.pointer (some ⟨B, 0, none⟩)] (Value.int .i64) (fun x => decide (x ∈ row)) w := fun W x hbW =>
    (missing1_walk B A cr row x W ((hbW.cell (p := ⟨B, 0, none⟩) hBs).trans hB) (Kd.C_below hr (below_then h0 h0.size hbW)) hrl).mono (fun _ _ hq => ⟨hq.1, drawn_fn hq.2⟩)
  have hPO : PredOver Try.prog 77 #[.pointer (some ⟨B, 0, none⟩)] (Value.int .i64) (fun x => decide (x ∈ row)) g 0 L.toArray.size w := fun q os dk x hs =>
    (missing1_walk B A cr row x _ (by
      unfold Go.Proofs.sortWorld
      rw [Sort.cell?_grow _ _ _ (by show B < (Sort.putRow _ _ _ _ _).heap.size; rw [Sort.size_putRow]; exact hBs), Sort.cell?_putRow_other _ _ g 0 _ _ (Or.inl hBg)]
      exact hB) (Kd.C_below hr (below_sort q os h0 (by omega) hH hs)) hrl).mono (fun _ _ hq => ⟨hq.1, drawn_fn hq.2⟩)
  have hcon := AnyE.slices_DeleteFunc Try.laysH10 (Value.int .i64) (fun _ => rfl) (fun x => decide (x ∈ row)) 77 #[.pointer (some ⟨B, 0, none⟩)] eg 0 Try.zeroValue3 g 0 c L.toArray w hPA hPO hH (by simp; omega) (by simpa using hnc)
  simp only [List.size_toArray] at hcon
  change Calls Try.prog 75 _ _ _ at hcon
  refine hcon.mono ?_
  rintro e w' ⟨rfl, q, rfl⟩
  obtain ⟨F, hF⟩ : ∃ F, L.filter (fun x => !decide (x ∈ row)) = F := ⟨_, rfl⟩
  have hFl : F.length ≤ L.length := by rw [← hF]; exact List.length_filter_le _ _
  rw [show (L.toArray.toList.filter fun x => !decide (x ∈ row)) = F from hF]
  rw [Lib.putRow_eq_setCells (Value.int .i64) w g 0 L.toArray _ q hH (by simp; omega)]
  refine ⟨_, rfl, ?_, ?_⟩
  · obtain ⟨cur', hh', hsz', hl'⟩ := setCells_row ((F ++ List.replicate (L.length - F.length) 0).map (Value.int .i64)) 0 (w.drewN q) cur hh (by simp; omega)
    refine Kd.R_of_own ⟨by simp [encs], .inr ⟨g, c, cur', rfl, hbg, hh', by omega, hcm, by omega, ?_⟩⟩ (fun k hk => trivial)
    rw [hl', List.take_zero, List.nil_append, List.map_append, List.append_assoc, Nat.mul_one, List.take_append_of_le_length (by simp), List.take_of_length_le (by simp)]
    rfl
  · have hsm := setCells_same g ((F ++ List.replicate (L.length - F.length) 0).map (Value.int .i64)) 0 (w.drewN q)
    exact ⟨hsm.1, hsm.2.1, hsm.2.2.1, Nat.le_of_eq hsm.2.2.2.symm, fun k hk => setCells_far _ 0 k (by omega)⟩
theorem info_intM : (Try.prog.info? 3).map (fun i => (i.zero, i.size, i.bytes)) = some (some (.int .i64 0), 1, 8) := by kernel_rfl
theorem deletefunc_nil (f : Value) (w : World) : Calls Try.prog 75 #[.slice none 0 0, f] w fun e w' => e = .returned (.slice none 0 0) ∧ Drawn0 w w' := by
  go_enter Try.func75, Try.ntmps75
  go_wp2_with (first
    | (go_at_call 97; refine (Try.slices_IndexFunc_empty (α := Int) none 0 f _).mono ?_; rintro e w1 ⟨rfl, rfl⟩))
  go_ret
  exact ⟨rfl, by repeat (first | exact Drawn0.refl _ | apply Drawn0.step)⟩
theorem delete_at (A0 : Option Addr) (c0 : Nat) (row who : List Int) (v : Value) (w w1 : World) (hR : Kd.R (Kd.int .i64) 3 w1 (w.alloc (.cells #[.slice A0 row.length c0] 48)).heap.size (fun _ => True) v who) (hB : Below (w.alloc (.cells #[.slice A0 row.length c0] 48)).heap.size (w.alloc (.cells #[.slice A0 row.length c0] 48)) w1)
    (hr0 : Kd.C (Kd.int .i64) w A0 row.length row) (h0 : row.length ≤ 1000000) :
    Calls Try.prog 75 #[v, .func (.func 77) #[] #[.pointer (some ⟨w.heap.size, 0, none⟩)]] w1 fun e w' => ∃ v, e = .returned v ∧ Kd.R (Kd.int .i64) 3 w' w.heap.size (fun _ => True) v (who.filter (fun x => !decide (x ∈ row))) ∧ Below w.heap.size w w' := by
  have hsz : (w.alloc (.cells #[.slice A0 row.length c0] 48)).heap.size = w.heap.size + 1 := Array.size_push _
  have h0B : Below w.heap.size w w1 := below_weaken (below_alloc (Below.refl _ _) _) (by omega) hB
  have ho := Kd.own_of_R hR
  rcases ho.2 with ⟨hv, hn⟩ | ⟨g, cap, cur, hv, hbg, hh, hnc, hcm, hcs, hct⟩
  · subst hv
    have : who = [] := List.eq_nil_of_length_eq_zero (by simpa using hn)
    subst this
    refine (deletefunc_nil _ w1).mono ?_
    rintro e w' ⟨rfl, hd⟩
    obtain ⟨q, rfl⟩ := drawn_fn hd
    exact ⟨_, rfl, Kd.R_nil _ _ _ _ _, ⟨h0B.os, h0B.tape, h0B.output, h0B.size, h0B.block⟩⟩
  · subst hv
    refine (deletefunc_walk g who.length cap _ w.heap.size who row A0 c0 w w1 hR (by omega) h0B hr0 h0 (by omega) ?_ ?_).mono ?_
    · rw [hB.cell (p := ⟨w.heap.size, 0, none⟩) (by show w.heap.size < _; omega)]
      exact World.cell?_alloc_new _ _ _ _
    · have := hB.size
      omega
    · rintro e w' ⟨v, rfl, hR', hB'⟩
      exact ⟨v, rfl, Kd.R_lower hR' (by omega), below_weaken h0B (by omega) hB'⟩
theorem missing_walk (A0 A1 : Option Addr) (c0 c1 : Nat) (row who : List Int) (w : World) (hr0 : Kd.C (Kd.int .i64) w A0 row.length row) (hr1 : Kd.C (Kd.int .i64) w A1 who.length who) (h0 : row.length ≤ 1000000) (h1 : who.length ≤ 1000000) :
    Calls Try.prog 39 #[.slice A0 row.length c0, .slice A1 who.length c1] w fun e w' => ∃ v, e = .returned v ∧ Kd.R (Kd.int .i64) 3 w' w.heap.size (fun _ => True) v (who.filter (fun x => !decide (x ∈ row))) ∧ Below w.heap.size w w' := by
  have HR0 := Lib.hid hr0
  have HR1 := Lib.hid hr1
  clear hr0 hr1
  go_enter Try.func39, Try.ntmps39
  go_wp2_with (first
    | (go_at_call 76; refine (cloneInt_walk (Kd.int .i64) (.int .i64 0) 1 8 rfl info_intM rfl (by omega) (by omega) (fun _ _ _ _ _ h => h) A1 c1 who _ (Kd.C_alloc HR1.out _) (by omega)).mono ?_; rintro e w1 ⟨v, rfl, hR, hB⟩; have HB1 := Lib.hid hB; have HRR := Lib.hid hR; clear hB hR)
    | (go_at_call 75; refine (delete_at A0 c0 row who v w w1 HRR.out HB1.out HR0.out h0).mono ?_; rintro e w2 ⟨v2, rfl, hR2, hB2⟩; have HB2 := Lib.hid hB2; have HRR2 := Lib.hid hR2; clear hB2 hR2))
  go_ret
  exact ⟨_, rfl, HRR2.out, HB2.out⟩
/-- picks.Missing, as a plain function. -/
def picks_Missing.f (row who : List Int) : Option (List Int) := if row.length ≤ 1000000 ∧ who.length ≤ 1000000 then some (who.filter (fun x => !decide (x ∈ row))) else none
theorem picks_Missing.calls (A0 : Option Addr) (c0 : Nat) (a0 : List Int) (A1 : Option Addr) (c1 : Nat) (a1 : List Int) (r : List Int) (w : World) (hr0 : Kd.C (Kd.int .i64) w A0 a0.length a0) (hc0 : a0.length ≤ c0) (hr1 : Kd.C (Kd.int .i64) w A1 a1.length a1) (hc1 : a1.length ≤ c1) (h : picks_Missing.f a0 a1 = some r) :
    Calls Try.prog 39 #[.slice A0 a0.length c0, .slice A1 a1.length c1] w fun e w' => ∃ v0_ : Value, e = .returned v0_ ∧ Kd.R (Kd.int .i64) 3 w' w.heap.size (fun _ => True) v0_ r ∧ Below w.heap.size w w' := by
  unfold picks_Missing.f at h
  by_cases c : a0.length ≤ 1000000 ∧ a1.length ≤ 1000000
  · rw [if_pos c] at h
    obtain rfl := Option.some.inj h
    exact missing_walk A0 A1 c0 c1 a0 a1 w hr0 hr1 c.1 c.2
  · rw [if_neg c] at h
    cases h
end Go.Proofs.Ythbjbjlfliogmaa.Hand
