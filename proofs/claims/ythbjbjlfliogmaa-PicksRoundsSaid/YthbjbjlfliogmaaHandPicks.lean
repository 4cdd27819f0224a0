/- picks.Order: the order of a number, of n things: for every n from 0 to 12 and every number. -/
import Derived.Test.YthbjbjlfliogmaaHand0
import Derived.Test.YthbjbjlfliogmaaHandShelf
namespace Go.Proofs.Ythbjbjlfliogmaa.Hand
open Go.RowKit Go.Proofs.YthbjbjlfliogmaaW.PrintWords Go.Proofs.YthbjbjlfliogmaaW.PrintLast
set_option linter.unusedVariables false
set_option linter.unusedSimpArgs false

/-- How many orders there are. -/
def factN : Nat → Nat
  | 0 => 1
  | n + 1 => factN n * (n + 1)
theorem factN_pos : ∀ n, 0 < factN n
  | 0 => by decide
  | n + 1 => Nat.mul_pos (factN_pos n) (by omega)
theorem factN_mono : ∀ n m, n ≤ m → factN n ≤ factN m := by
  intro n m h
  induction h with
  | refl => exact Nat.le_refl _
  | step _ ih => exact Nat.le_trans ih (by show _ ≤ factN _ * (_ + 1); exact Nat.le_mul_of_pos_right _ (by omega))
theorem factN_12 (n : Nat) (h : n ≤ 12) : factN n ≤ 479001600 := Nat.le_trans (factN_mono n 12 h) (by decide)

set_option maxHeartbeats 1000000
set_option maxRecDepth 100000
theorem orders_walk (n : Nat) (hn : n ≤ 12) (w : World) :
    Calls Try.prog 33 #[.int .i64 n] w fun e w' => e = .returned (.int .u64 (factN n)) ∧ w = w' := by
  have h1 : ¬ ((n : Int) < 0) := by omega
  have h2 : ¬ ((n : Int) > 12) := by omega
  go_enter Try.func33, Try.ntmps33
  go_wp2
  go_loopw [12, 3] (fun v12 v3 wr => ∃ j : Nat, j ≤ n ∧ v12 = .int .i64 j ∧ v3 = .int .u64 (factN j) ∧ wr = w) (fun v12 _ _ => n - (intOf v12).toNat)
  case atStart => exact ⟨0, by omega, rfl, rfl, rfl⟩
  case round =>
    obtain ⟨j, hj, rfl, rfl, rfl⟩ := hrel
    by_cases h : j < n
    · have hlt : (j : Int) < (n : Int) := by omega
      have hb : factN (j + 1) ≤ 479001600 := factN_12 (j + 1) (by omega)
      have he : factN (j + 1) = factN j * (j + 1) := rfl
      have hb0 : factN j ≤ 479001600 := factN_12 j (by omega)
      have hm : (factN j : Int) * ((j : Int) + 1) = ((factN (j + 1) : Nat) : Int) := by rw [he]; simp
      have hw : IntKind.u64.wrap ((factN j : Int) * ((j : Int) + 1)) = ((factN (j + 1) : Nat) : Int) := by rw [hm, IntKind.wrap_u64]; omega
      clear he hm hb hb0
      go_wp2
      go_roundw
      case rel => exact ⟨j + 1, by omega, by go_num, by go_num, trivial⟩
      case measure => simp [intOf]; omega
    · have hge : ¬ (j : Int) < (n : Int) := by omega
      obtain rfl : j = n := by omega
      go_wp2
      go_ret
      exact ⟨rfl, rfl⟩

/-- What Delete leaves of a row of one's own: the same block, one element less. -/
theorem delete_walk (g i m c base : Nat) (L : List Int) (w : World) (h : Kd.R (Kd.int .i64) 3 w base (fun k => k = g) (.slice (some ⟨g, 0, none⟩) m c) L) (hi : i < m) :
    Calls Try.prog 72 #[.slice (some ⟨g, 0, none⟩) m c, .int .i64 i, .int .i64 ((i : Int) + 1)] w fun e w' =>
      e = .returned (.slice (some ⟨g, 0, none⟩) (m - 1) c) ∧ Kd.R (Kd.int .i64) 3 w' base (fun k => k = g) (.slice (some ⟨g, 0, none⟩) (m - 1) c) (L.eraseIdx i) ∧ w.grownBy w' (some g) := by
  have ho := Kd.own_of_R h
  have hml : m = L.length := (Kd.R_reads' h).1
  subst hml
  rcases ho.2 with ⟨hv, _⟩ | ⟨g', cap, cur, hv, hb, hh, hnc, hcm, hcs, hct⟩
  · cases hv
  injection hv with ha _ hc
  injection ha with ha
  injection ha with hg'
  subst hg'; subst hc
  have hgl : g < w.heap.size := blk_lt hh
  have hcell : ∀ j, j < L.length → w.cell? ⟨g, 0 + j, none⟩ = some (.int .i64 (L.getD j 0)) := by
    intro j hj
    rw [Nat.zero_add, blk_cell hh j]
    have h3 : (cur.toList.take (L.length * 1))[j]? = (encs (Value.int .i64) L)[j]? := by rw [hct]
    rw [List.getElem?_take_of_lt (by omega), Array.getElem?_toList, encs_get L j hj (d := 0)] at h3
    exact h3
  have hfz : ∀ j, j < L.length → w.frozen? ⟨g, 0 + j, none⟩ = false := fun j _ => blk_frozen hh _
  have e1 : (i : Int) + 1 = ((i + 1 : Nat) : Int) := by omega
  rw [e1]
  have hm : maxLen ≤ 9223372036854775807 := by decide
  refine (Try.slices_Delete_int_cells g 0 L.length c i (i + 1) L w (Nat.le_refl _) hnc (by omega) (by omega) (by omega) hcell hfz).mono ?_
  rintro e w' ⟨rfl, q, rfl⟩
  have e2 : L.length - (i + 1 - i) = L.length - 1 := by omega
  rw [e2]
  refine ⟨rfl, ?_, ?_⟩
  · obtain ⟨cur', hh', hsz', hl'⟩ := setCells_row (((L.take L.length).take i ++ (L.take L.length).drop (i + 1) ++ List.replicate (i + 1 - i) 0).map (Value.int .i64)) 0 (w.drewN q) cur hh (by simp; omega)
    have hel : (L.eraseIdx i).length = L.length - 1 := by rw [List.length_eraseIdx]; simp [hi]
    have : L.length - 1 = (L.eraseIdx i).length := hel.symm
    rw [this]
    refine Kd.R_of_own ⟨by simp [encs], .inr ⟨g, c, cur', by simp, hb, hh', by omega, hcm, by omega, ?_⟩⟩ (fun k hk => by simp [Value.ownBlock] at hk; exact hk.symm)
    rw [hl', List.take_zero, List.nil_append, List.eraseIdx_eq_take_drop_succ]
    simp only [List.take_length, encs, List.map_append, List.append_assoc]
    rw [← List.append_assoc, List.take_append_of_le_length (by simp [List.length_eraseIdx]), List.take_of_length_le (by simp [List.length_eraseIdx])]
  · refine ⟨(setCells_same g _ 0 (w.drewN q)).1, (setCells_same g _ 0 (w.drewN q)).2.1, (setCells_same g _ 0 (w.drewN q)).2.2.1, Nat.le_of_eq (setCells_same g _ 0 (w.drewN q)).2.2.2.symm, fun k hk hne => setCells_far _ 0 k (fun e => hne (by rw [e]))⟩
/-- The order of a number, of some things: one first, then the order of the others. -/
def orderF : Nat → List Int → Nat → List Int
  | 0, _, _ => []
  | m + 1, L, k => L.getD (k / factN m) 0 :: orderF m (L.eraseIdx (k / factN m)) (k % factN m)
/-- The numbers from 0 on. -/
def upTo (n : Nat) : List Int := (List.range n).map (fun i : Nat => (i : Int))
theorem upTo_succ (j : Nat) : upTo (j + 1) = upTo j ++ [(j : Int)] := by
  unfold upTo; rw [List.range_succ, List.map_append]; rfl
theorem upTo_length (j : Nat) : (upTo j).length = j := by simp [upTo]
theorem info_int : (Try.prog.info? 3).map (fun i => (i.zero, i.size, i.bytes)) = some (some (.int .i64 0), 1, 8) := by kernel_rfl
theorem R_one {w : World} {base : Nat} {v : Value} {L : List Int} (h : Kd.R (Kd.int .i64) 3 w base (fun _ => True) v L) : ∃ g, Kd.R (Kd.int .i64) 3 w base (fun k => k = g) v L :=
  ⟨v.ownBlock.getD 0, Kd.R_mono (Kd.R_tight rfl h) (fun k hk => by rw [← hk]; rfl)⟩
theorem R_cell {w : World} {base g n c : Nat} {ok : Nat → Prop} {L : List Int} (h : Kd.R (Kd.int .i64) 3 w base ok (.slice (some ⟨g, 0, none⟩) n c) L) (i : Nat) (hi : i < L.length) : w.cell? ⟨g, i, none⟩ = some (.int .i64 (L.getD i 0)) := by
  have ho := Kd.own_of_R h
  have hml : n = L.length := (Kd.R_reads' h).1
  subst hml
  rcases ho.2 with ⟨hv, _⟩ | ⟨g', cap, cur, hv, hb, hh, hnc, hcm, hcs, hct⟩
  · cases hv
  injection hv with ha _ hc
  injection ha with ha
  injection ha with hg'
  subst hg'; subst hc
  rw [blk_cell hh i]
  have h3 : (cur.toList.take (L.length * 1))[i]? = (encs (Value.int .i64) L)[i]? := by rw [hct]
  rw [List.getElem?_take_of_lt (by omega), Array.getElem?_toList, encs_get L i hi (d := 0)] at h3
  exact h3
theorem order_walk (n k : Nat) (hn : n ≤ 12) (hk : k < 18446744073709551616) (w : World) :
    Calls Try.prog 32 #[.int .i64 n, .int .u64 k] w fun e w' => ∃ v, e = .returned v ∧ Kd.R (Kd.int .i64) 3 w' w.heap.size (fun _ => True) v (orderF n (upTo n) (k % factN n)) ∧ Below w.heap.size w w' := by
  have hp := factN_pos n
  have hle := factN_12 n hn
  have hne : ¬ ((factN n : Nat) : Int) = 0 := by omega
  have hneb : (((factN n : Nat) : Int) == 0) = false := by simpa using hne
  go_enter Try.func32, Try.ntmps32
  go_wp2_with (first
    | (go_at_call 33; refine (orders_walk n hn _).mono ?_; rintro e w1 ⟨rfl, rfl⟩))
  clear hne hneb
  go_loopw [19, 6] (fun v19 v6 wr => ∃ j : Nat, j ≤ n ∧ v19 = .int .i64 j ∧ Hid (Kd.R (Kd.int .i64) 3 wr w.heap.size (fun _ => True) v6 (upTo j)) ∧ Hid (Below w.heap.size w wr)) (fun v19 _ _ => n - (intOf v19).toNat)
  case atStart => exact ⟨0, by omega, rfl, Lib.hid (show Kd.R (Kd.int .i64) 3 w w.heap.size (fun _ => True) (.slice none 0 0) [] from Kd.R_nil _ _ _ _ _), Lib.hid (Below.refl _ _)⟩
  case round =>
    obtain ⟨j, hj, rfl, HO, HB⟩ := hrel
    obtain ⟨A6, c6, rfl⟩ := Kd.R_slice HO.out
    by_cases h : j < n
    · have hlt : (j : Int) < (n : Int) := by omega
      go_wp2_with (first
        | (at_builtin; refine Kd.R_append (Kd.int .i64) (w0 := w) w.heap.size rfl (.tmp 22) (.tmp 24) 48 3 (.int .i64 0) 8 rfl Try.underlying48 info_int rfl (by decide) (by omega) _ (upTo j) (j : Int) [.int .i64 j] (fun _ => True) (fun _ => False) rfl rfl ?aP (fun _ hk => hk.elim) ?aF ?aO ?aB ?aS ?aL ?_; (case aP => exact rfl); (case aF => exact (fun _ _ => trivial)); (case aO => exact HO.out); (case aB => exact HB.out); (case aS => exact HB.out.size); (case aL => (rw [upTo_length]; omega)); intro v1 w1 ho hb hg hat))
      go_roundw
      case rel => exact ⟨j + 1, by omega, by go_num, Lib.hid (by rw [upTo_succ]; exact ho), Lib.hid hb⟩
      case measure => simp [intOf]; omega
    · have hge : ¬ (j : Int) < (n : Int) := by omega
      obtain rfl : j = n := by omega
      obtain ⟨g0, hg0⟩ := R_one HO.out
      have HO := Lib.hid hg0
      clear hg0
      go_wp2
      go_loopw [28, 5, 1, 6, 7] (fun v28 v5 v1 v6 v7 wq => ∃ (i m q g : Nat) (L O : List Int), i + m = j ∧ v28 = .int .i64 i ∧ v5 = .int .u64 (factN m) ∧ v1 = .int .u64 q ∧ q < factN m ∧ Hid (L.length = m) ∧ Hid (O.length = i) ∧ Hid (Kd.R (Kd.int .i64) 3 wq w.heap.size (fun k => k = g) v6 L) ∧ Hid (Kd.R (Kd.int .i64) 3 wq w.heap.size (fun k => k ≠ g) v7 O) ∧ Hid (O ++ orderF m L q = orderF j (upTo j) (k % factN j)) ∧ Hid (Below w.heap.size w wq)) (fun v28 _ _ _ _ _ => j - (intOf v28).toNat)
      case atStart => exact ⟨0, j, k % factN j, g0, upTo j, [], by omega, rfl, rfl, by simp, Nat.mod_lt _ (factN_pos j), Lib.hid (upTo_length j), Lib.hid rfl, HO, Lib.hid (Kd.R_nil _ _ _ _ _), Lib.hid rfl, HB⟩
      case round =>
        obtain ⟨i, m, q, g, L, O, him, rfl, rfl, rfl, hqm, HL, HOL, H6, H7, HE, HB2⟩ := hrel
        by_cases h : i < j
        · obtain ⟨m, rfl⟩ : ∃ m', m = m' + 1 := ⟨m - 1, by omega⟩
          have hlt : (i : Int) < (j : Int) := by omega
          have hpos := factN_pos m
          have hb0 := factN_12 m (by omega)
          obtain ⟨g', c6, rfl, hgb, hgl, _⟩ := Kd.R_form H6.out (by rw [HL.out]; omega)
          obtain rfl : g' = g := H6.out.1 g' rfl
          obtain ⟨A7, c7, rfl⟩ := Kd.R_slice H7.out
          have ht : q / factN m < m + 1 := (Nat.div_lt_iff_lt_mul hpos).2 (by rw [Nat.mul_comm]; exact hqm)
          have hcell := R_cell H6.out (q / factN m) (by rw [HL.out]; exact ht)
          obtain ⟨x, hx⟩ : ∃ x, L.getD (q / factN m) 0 = x := ⟨_, rfl⟩
          rw [hx] at hcell
          have HX := Lib.hid hx
          have HLL := HL.out
          rw [HLL] at H6 ⊢
          clear HLL
          have hd1 : ((factN (m + 1) : Nat) : Int) / ((j : Int) - (i : Int)) = ((factN m : Nat) : Int) := by
            have e : (j : Int) - (i : Int) = ((m + 1 : Nat) : Int) := by omega
            have e2 : ((factN (m + 1) : Nat) : Int) = ((factN m : Nat) : Int) * ((m + 1 : Nat) : Int) := by rw [← Int.natCast_mul]; rfl
            rw [e, e2, Int.mul_ediv_cancel _ (by omega)]
          have hd2 : (q : Int) / ((factN m : Nat) : Int) = ((q / factN m : Nat) : Int) := by simp
          have hr2 : (q : Int) % ((factN m : Nat) : Int) = ((q % factN m : Nat) : Int) := by simp
          obtain ⟨tt, htt⟩ : ∃ tt, q / factN m = tt := ⟨_, rfl⟩
          obtain ⟨r, hrr⟩ : ∃ r, q % factN m = r := ⟨_, rfl⟩
          have hrlt : r < factN m := by rw [← hrr]; exact Nat.mod_lt _ hpos
          rw [htt] at hd2 ht hcell HX
          rw [hrr] at hr2
          have HTT := Lib.hid htt
          have HRR := Lib.hid hrr
          obtain ⟨F, hF⟩ : ∃ F, factN m = F := ⟨_, rfl⟩
          rw [hF] at hpos hb0 hd1 hd2 hr2 hrlt
          have HF := Lib.hid hF
          have HQ := Lib.hid hqm
          clear hx htt hrr hF hqm
          have hz1 : ¬ ((j : Int) - (i : Int)) = 0 := by omega
          have hz2 : ¬ (F : Int) = 0 := by omega
          have hOl : O.length ≤ 12 := by rw [HOL.out]; omega
          have H7b := Lib.hid (fun k (hk : k = g') (e : some k = (Value.slice A7 O.length c7).ownBlock) => H7.out.1 k e.symm hk)
          go_wp2_with (first
            | (at_builtin; refine Kd.R_append (Kd.int .i64) (w0 := w) w.heap.size rfl (.tmp 44) (.tmp 49) 48 3 (.int .i64 0) 8 rfl Try.underlying48 info_int rfl (by decide) (by omega) _ O x [.int .i64 x] (fun k => k ≠ g') (fun _ => False) rfl rfl ?aP (fun _ hk => hk.elim) ?aF ?aO ?aB ?aS ?aL ?_; (case aP => exact rfl); (case aF => (intro k hk e; rw [e] at hk; exact absurd hk (Nat.not_le.2 hgl))); (case aO => exact H7.out); (case aB => exact HB2.out); (case aS => exact HB2.out.size); (case aL => omega); intro v1 w1 ho hb hg hat; have HO2 := Lib.hid ho; have H62 := Lib.hid (Kd.R_grown H6.out hg H7b.out); have HB3 := Lib.hid hb; clear ho hb hg hat)
            | (go_at_call 72; refine (delete_walk g' tt (m + 1) c6 w.heap.size L _ H62.out ht).mono ?_; rintro e w2 ⟨rfl, h62, hg2⟩))
          go_roundw
          case rel =>
            refine ⟨i + 1, m, r, g', L.eraseIdx tt, O ++ [x], by omega, by go_num, by rw [HF.out], rfl, by rw [HF.out]; exact hrlt, Lib.hid ?_, Lib.hid (by rw [List.length_append, HOL.out]; rfl), Lib.hid h62, Lib.hid (Kd.R_grown HO2.out hg2 (fun k hk e => hk (Option.some.inj e))), Lib.hid ?_, Lib.hid (pw_below_grown HB3.out (some g') HB3.out.size hg2 (fun k hk => by rw [← Option.some.inj hk]; exact hgb))⟩
            · rw [List.length_eraseIdx, HL.out, if_pos ht]; rfl
            · rw [← HE.out]
              simp only [orderF]
              rw [HTT.out, HRR.out, HX.out, List.append_assoc]; rfl
          case measure => simp [intOf]; omega
        · have hge : ¬ (i : Int) < (j : Int) := by omega
          obtain rfl : m = 0 := by omega
          have he : O = orderF j (upTo j) (k % factN j) := by rw [← HE.out]; simp [orderF]
          have HQ := Lib.hid he
          obtain ⟨A7, c7, rfl⟩ := Kd.R_slice H7.out
          clear he
          go_wp2
          go_ret
          exact ⟨_, rfl, by rw [← HQ.out]; exact Kd.R_mono H7.out (fun _ _ => trivial), HB2.out⟩
theorem orders_none (n : Int) (hn : n < 0 ∨ n > 12) (w : World) :
    Calls Try.prog 33 #[.int .i64 n] w fun e w' => e = .returned (.int .u64 0) ∧ w = w' := by
  by_cases h : n < 0
  · go_enter Try.func33, Try.ntmps33
    go_wp2
    go_ret
    exact ⟨rfl, rfl⟩
  · have h2 : n > 12 := by omega
    clear hn
    go_enter Try.func33, Try.ntmps33
    go_wp2
    go_ret
    exact ⟨rfl, rfl⟩
theorem order_none (n : Int) (k : Int) (hn : n < 0 ∨ n > 12) (w : World) :
    Calls Try.prog 32 #[.int .i64 n, .int .u64 k] w fun e w' => e = .returned (.slice none 0 0) ∧ w = w' := by
  have HN := Lib.hid hn
  clear hn
  go_enter Try.func32, Try.ntmps32
  go_wp2_with (first
    | (go_at_call 33; refine (orders_none n HN.out _).mono ?_; rintro e w1 ⟨rfl, rfl⟩))
  go_ret
  exact ⟨rfl, rfl⟩
/-- picks.Order, as a plain function. -/
def picks_Order.f (a0 a1 : Int) : Option (List Int) := if 0 ≤ a1 ∧ a1 < 18446744073709551616 then (if 0 ≤ a0 ∧ a0 ≤ 12 then some (orderF a0.toNat (upTo a0.toNat) (a1.toNat % factN a0.toNat)) else some []) else none
theorem picks_Order.calls (a0 a1 : Int) (r : List Int) (w : World) (h : picks_Order.f a0 a1 = some r) :
    Calls Try.prog 32 #[.int .i64 a0, .int .u64 a1] w fun e w' => ∃ v0_ : Value, e = .returned v0_ ∧ Kd.R (Kd.int .i64) 3 w' w.heap.size (fun _ => True) v0_ r ∧ Below w.heap.size w w' := by
  unfold picks_Order.f at h
  by_cases c : 0 ≤ a1 ∧ a1 < 18446744073709551616
  · rw [if_pos c] at h
    obtain ⟨k, rfl⟩ := Int.eq_ofNat_of_zero_le c.1
    by_cases c2 : 0 ≤ a0 ∧ a0 ≤ 12
    · rw [if_pos c2] at h
      obtain rfl := Option.some.inj h
      obtain ⟨n, rfl⟩ := Int.eq_ofNat_of_zero_le c2.1
      exact order_walk n k (by omega) (by omega) w
    · rw [if_neg c2] at h
      obtain rfl := Option.some.inj h
      refine (order_none a0 k (by omega) w).mono ?_
      rintro e w' ⟨rfl, rfl⟩
      exact ⟨_, rfl, Kd.R_nil _ _ _ _ _, Below.refl _ _⟩
  · rw [if_neg c] at h
    cases h
end Go.Proofs.Ythbjbjlfliogmaa.Hand
