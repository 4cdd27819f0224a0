/- The statement ShaSums walked. -/
import Derived.Test.YtndfpidilodmgaaShaS
import Derived.ChangeKeysEq
set_option linter.unusedSimpArgs false
set_option linter.unusedVariables false
namespace Go.Proofs.Ytndfpidilodmgaa.Hand
open Go.RowKit Go.Proofs.YtndfpidilodmgaaW.PrintWords Go.Proofs.YtndfpidilodmgaaW.PrintLast
theorem part_row (cs : Array Value) (n : Nat) (v : Value) (hv : cs[n]? = some v) (w : World) : (part 5 cs n).run Try.prog w = .ok v w := by
  have hag : (isAgg 5).run Try.prog w = .ok false w := by kernel_rfl
  unfold part
  simp only [Sem.run_bind, hag, Result.andThen_ok]
  simp [hv, go_sem]
theorem eq_byte (d : Nat) (a : Int) (w : World) : (Op.equalIn (d + 1) 5 (.int .u8 a) (.int .u8 a)).run Try.prog w = .ok true w := by
  unfold Op.equalIn
  simp only [Sem.run_bind, run_underlying Try.underlying5, Result.andThen_ok]
  simp
theorem eqItems_self (M : List Int) (w : World) : ∀ is : List Nat, (∀ i ∈ is, i < M.length) → (Op.eqItems 9999 5 1 (rowb M) (rowb M) is).run Try.prog w = .ok true w
  | [], _ => rfl
  | i :: is, h => by
    have hi : i < M.length := h i (by simp)
    have hv : (rowb M)[i * 1]? = some (.int .u8 (M.getD i 0)) := by
      rw [Nat.mul_one, List.getD_eq_getElem?_getD, List.getElem?_eq_getElem hi]
      simp only [rowb, List.getElem?_toArray, List.getElem?_map, List.getElem?_eq_getElem hi, Option.map_some, Option.getD_some]
    have ih := eqItems_self M w is (fun j hj => h j (by simp [hj]))
    have he : ∀ a : Int, (Op.equalIn 9999 5 (.int .u8 a) (.int .u8 a)).run Try.prog w = .ok true w := fun a => eq_byte 9998 a w
    simp only [Op.eqItems, Sem.run_bind, part_row _ _ _ hv, Result.andThen_ok, he]
    simpa using ih
theorem eq_self (t : TypeId) (ht : Try.prog.underlying t = some (.array 32 5)) (M : List Int) (hM : M.length = 32) (w : World) : (Op.equalIn 10000 t (.agg (rowb M)) (.agg (rowb M))).run Try.prog w = .ok true w := by
  obtain ⟨i, hi⟩ : ∃ i, Try.prog.info? 5 = some i := by
    have h : (Try.prog.info? 5).isSome = true := by kernel_rfl
    exact Option.isSome_iff_exists.mp h
  have hc : Try.prog.cellsOf 5 = 1 := by kernel_rfl
  rw [run_equalIn_array w 9999 _ _ ht hi, hc]
  exact eqItems_self M w _ (fun j hj => by rw [hM]; exact List.mem_range.mp hj)
theorem ofB_len (s : ByteArray) : (ofB s).length = 32 := by rw [ofB, outB_len]
theorem join_self (s : ByteArray) (i k : Nat) (h1 : i ≤ k) (h2 : k ≤ s.size) : (Lib.join ([s.extract 0 i, s.extract i k, ⟨#[]⟩, s.extract k s.size].map (·.data.toList)) []).toArray = s.data := by
  have hl : s.data.toList.length = s.size := by simp
  have e : ∀ a b, (s.extract a b).data.toList = (s.data.toList.drop a).take (b - a) := fun a b => by
    rw [ByteArray.data_extract, Array.toList_extract, List.extract_eq_take_drop]
  have e0 : Lib.join ([s.extract 0 i, s.extract i k, ⟨#[]⟩, s.extract k s.size].map (·.data.toList)) [] = s.data.toList := by
    simp only [List.map_cons, List.map_nil, Lib.join_cons, Lib.joinTail, List.nil_append, List.flatten_cons, List.flatten_nil, List.append_nil, e]
    generalize s.data.toList = l at hl ⊢
    rw [List.drop_zero, Nat.sub_zero, ← hl, List.take_of_length_le (l := l.drop k) (by rw [List.length_drop]; exact Nat.le_refl _)]
    have h3 : (l.drop i).take (k - i) ++ l.drop k = l.drop i := by
      have := List.take_append_drop (k - i) (l.drop i)
      rw [List.drop_drop, show i + (k - i) = k by omega] at this
      exact this
    rw [h3, List.take_append_drop]
  rw [e0]
theorem join_one' (s : ByteArray) : (Lib.join ([s].map (·.data.toList)) []).toArray = s.data := by
  rw [List.map_cons, List.map_nil, Lib.join_one]
theorem one_of (s : ByteArray) (w : World) (z : Nat) (h : w.heap[z]? = some (.cells #[.string s] 9 (0, 0))) (hn : s.size ≤ 1000) (X : Array Value) (hX : rowb (ofB s) = X) : Calls Try.prog 9 #[.slice (some ⟨z, 0, none⟩) 1 1] w fun e w' => e = .returned (.agg X) ∧ Below w.heap.size w w' := by
  subst hX
  exact of_slice z 0 1 [s] s w (fun j x hx => by
    match j, hx with
    | 0, hx =>
      injection hx with hx
      subst hx
      exact blk_cell h 0) (blk_lt h) (by simp) (by simp) (join_one' s) (by omega)
theorem four_of (s : ByteArray) (w : World) (z i k : Nat) (h : w.heap[z]? = some (.cells #[.string (s.extract 0 i), .string (s.extract i k), .string ⟨#[]⟩, .string (s.extract k s.size)] 9 (0, 0))) (hn : s.size ≤ 1000) (h1 : i ≤ k) (h2 : k ≤ s.size) (X : Array Value) (hX : rowb (ofB s) = X) : Calls Try.prog 9 #[.slice (some ⟨z, 0, none⟩) 4 4] w fun e w' => e = .returned (.agg X) ∧ Below w.heap.size w w' := by
  subst hX
  exact of_slice z 0 4 [s.extract 0 i, s.extract i k, ⟨#[]⟩, s.extract k s.size] s w (fun j x hx => by
    match j, hx with
    | 0, hx => injection hx with hx; subst hx; exact blk_cell h 0
    | 1, hx => injection hx with hx; subst hx; exact blk_cell h 1
    | 2, hx => injection hx with hx; subst hx; exact blk_cell h 2
    | 3, hx => injection hx with hx; subst hx; exact blk_cell h 3) (blk_lt h) (by simp) (by simp) (join_self s i k h1 h2) (by omega)
set_option maxRecDepth 100000 in
set_option maxHeartbeats 3200000 in
theorem ShaSums_walk (s : ByteArray) (a0 a1 : Int) (h0 : 0 ≤ a0) (h1 : 0 ≤ a1) (h00 : a0 < 65536) (h11 : a1 < 65536) (w : World) : Calls Try.prog 3 #[.string s, .agg #[.int .u16 a0, .int .u16 a1]] w fun e w' => e = .returned (.bool true) ∧ Below w.heap.size w w' := by
  have S1 := Lib.hid (blk_new w (.cells #[.int .u16 a0, .int .u16 a1] 23))
  have F1 := Lib.hid (below_alloc (Below.refl w.heap.size w) (.cells #[.int .u16 a0, .int .u16 a1] 23))
  by_cases hbig : 500 < s.size
  · have hb2 : (500 : Int) < (s.size : Int) := by omega
    go_enter Try.func3, Try.ntmps3
    go_wp2_with (go_at_call 7; (with_reducible refine (awake_walk _).mono ?_); rintro e w2 ⟨rfl, hb⟩)
    go_ret
    exact ⟨rfl, below_step F1.out hb⟩
  · have hb2 : ¬ (500 : Int) < (s.size : Int) := by omega
    go_enter Try.func3, Try.ntmps3
    go_upto_region 3 with (fail)
    generalize w.alloc _ = w1 at S1 F1 ⊢
    obtain ⟨g, hg⟩ : ∃ g, w.heap.size = g := ⟨_, rfl⟩
    have hg0 : w.heap.size ≤ g := by omega
    rw [hg] at S1 ⊢
    have k0 : w1.cell? ⟨g, 0, none⟩ = some (.int .u16 a0) := blk_cell S1.out 0
    have k1 : w1.cell? ⟨g, 1, none⟩ = some (.int .u16 a1) := blk_cell S1.out 1
    have c0 : IntKind.i64.wrap a0 = a0 := by rw [IntKind.wrap_i64]; omega
    have c1 : IntKind.i64.wrap a1 = a1 := by rw [IntKind.wrap_i64]; omega
    have c2 : IntKind.i64.wrap ((s.size : Int) + 1) = (s.size : Int) + 1 := by rw [IntKind.wrap_i64]; omega
    have c3 : ¬ (s.size : Int) + 1 = 0 := by omega
    go_upto_region 4 with (fail)
    obtain ⟨I, hI⟩ : ∃ I : Nat, a0 % ((s.size : Int) + 1) = (I : Int) := ⟨(a0 % ((s.size : Int) + 1)).toNat, (Int.toNat_of_nonneg (Int.emod_nonneg _ c3)).symm⟩
    have hIl : I ≤ s.size := by have := Int.emod_lt_of_pos a0 (show (0 : Int) < (s.size : Int) + 1 by omega); omega
    rw [hI]
    clear hI c2 c3 k0
    have c4 : IntKind.i64.wrap ((s.size : Int) - (I : Int)) = (s.size : Int) - (I : Int) := by rw [IntKind.wrap_i64]; omega
    have c5 : IntKind.i64.wrap ((s.size : Int) - (I : Int) + 1) = (s.size : Int) - (I : Int) + 1 := by rw [IntKind.wrap_i64]; omega
    have c6 : ¬ (s.size : Int) - (I : Int) + 1 = 0 := by omega
    have hK0 := Int.emod_nonneg a1 c6
    have hK1 := Int.emod_lt_of_pos a1 (show (0 : Int) < (s.size : Int) - (I : Int) + 1 by omega)
    obtain ⟨Q, hQ⟩ : ∃ Q : Nat, (I : Int) + a1 % ((s.size : Int) - (I : Int) + 1) = (Q : Int) := ⟨((I : Int) + a1 % ((s.size : Int) - (I : Int) + 1)).toNat, by omega⟩
    have hIQ : I ≤ Q := by omega
    have hQs : Q ≤ s.size := by omega
    have c7 : IntKind.i64.wrap ((I : Int) + a1 % ((s.size : Int) - (I : Int) + 1)) = (I : Int) + a1 % ((s.size : Int) - (I : Int) + 1) := by rw [IntKind.wrap_i64]; omega
    go_upto_region 5 with (fail)

    clear hQ c4 c5 c6 c7 hK0 hK1 c0 c1 k1
    go_step
    iterate 5 go_step
    have hn : s.size ≤ 1000 := by omega
    have HN := Lib.hid hn
    (with_reducible refine (refof_walk s (by omega) w1).mono ?_)
    rintro e w2 ⟨rfl, hb⟩
    have F2 := Lib.hid (below_step F1.out hb)
    clear S1 F1 hb hn
    obtain ⟨X, hX⟩ : ∃ X, rowb (ofB s) = X := ⟨_, rfl⟩
    have hszX : X.size = 32 := by rw [← hX, rowb, List.size_toArray, List.length_map, ofB_len]
    have hX1 : Hid (X.all (·.oneCell') = true) := Lib.hid (by rw [← hX]; exact rowb_one _)
    rw [hX]
    have HX := Lib.hid hX
    have heq : ∀ W, (Op.equalIn 10000 27 (.agg X) (.agg X)).run Try.prog W = .ok true W := fun W => by rw [← hX]; exact eq_self 27 Try.underlying27 (ofB s) (ofB_len s) W
    clear hX
    have hi32 : (Try.prog.info? 25).map (·.size) = some 32 := by kernel_rfl
    dsimp only
    go_step
    refine wpList_alloc_to rfl 25 rfl (rowb Z32) 32 (by kernel_rfl) ?_
    have N3 := Lib.hid (blk_new w2 (.cells (rowb Z32) 25))
    have F3 := Lib.hid (below_alloc F2.out (.cells (rowb Z32) 25))
    have hq0 : w.heap.size ≤ w2.heap.size := below_size F2.out
    generalize w2.alloc _ = w3 at N3 F3 ⊢
    generalize w2.heap.size = q at N3 hq0 ⊢
    clear F2
    refine wpList_store_row rfl 25 (.tmp 7) (.tmp 31) rfl q X rfl rfl 25 _ N3.out (by rw [hszX]; exact hi32) (by rw [hszX]; rfl) hX1.out ?_
    have S5 := Lib.hid (setRow_heap w3 q _ X 25 (0, 0) N3.out)
    have F5 := Lib.hid (below_setRow F3.out hq0 X)
    clear N3 F3
    generalize w3.setRow _ _ = w5 at S5 F5 ⊢
    simp only [Act.put, List.setIfInBounds_toArray, List.set_cons_zero, List.set_cons_succ]
    have HIQ := Lib.hid hIQ
    have HQ := Lib.hid hQs
    have d0 : (I : Int) ≤ (Q : Int) := by omega
    have d1 : (Q : Int) ≤ (s.size : Int) := by omega
    have d2 : (0 : Int) ≤ (I : Int) := by omega
    have d3 : (I : Int) ≤ (s.size : Int) := by omega
    have d4 : (0 : Int) ≤ (Q : Int) := by omega
    go_upto_region 6 with (fail)
    refine start_ (n := 25) (S := fun w' => w'.heap[q]? = some (.cells X 25 (0, 0))) (ds := []) #[false, false, false, false, false, false, false, false, false, false, false, false, false, false, false, false, false, false, false, false, false, false, false, false, false] (by kernel_rfl) rfl rfl S5.out (fun hHeld => ?_)
    have S_u0 : Hid (w5.drew.heap[q]? = some (.cells X 25 (0, 0))) := S5
    have F_u0 := Lib.hid (below_drew1 F5.out)
    clear S5 F5
    generalize w5.drew = u0 at S_u0 F_u0 hHeld ⊢
    refine one_ (i := 0) (N := (some 32)) #[true, false, false, false, false, false, false, false, false, false, false, false, false, false, false, false, false, false, false, false, false, false, false, false, false] rfl rfl (by kernel_rfl) (by decide) (fun K hK => ?_)
    refine goes_ Try.func7 (by kernel_rfl) rfl #[] (by rfl) rfl rfl (by (try simp only [List.map_toArray, List.map_cons, List.map_nil]); first | done | rfl) ?_
    with_reducible refine (awake_walk u0).mono ?_
    rintro e u1 ⟨rfl, hb⟩
    have S_u1 := Lib.hid (blk_below S_u0.out hb)
    have F_u1 := Lib.hid (below_step F_u0.out hb)
    clear S_u0 F_u0 hb
    refine ⟨_, rfl, ?_⟩
    refine hK.out _ _ S_u1.out (fun hHeld => ?_)
    clear hK K
    refine norm_ (a' := ?_) ?_ ?_
    rotate_left
    · show Act.put _ (some 32) _ = _
      simp only [Act.put, List.setIfInBounds_toArray, List.set_cons_zero, List.set_cons_succ]
      rfl
    refine pure_ (i := 1) (N := (some 33)) (v := ?_) (a' := ?_) #[true, true, false, false, false, false, false, false, false, false, false, false, false, false, false, false, false, false, false, false, false, false, false, false, false] rfl rfl (by kernel_rfl) (fun _ _ _ h => h) (Or.inl ⟨by rfl, ?_⟩) ?_ ?_
    rotate_left
    · intro w'
      go_simp
      try with_reducible rfl
    rotate_left
    · simp only [Act.put, List.setIfInBounds_toArray, List.set_cons_zero, List.set_cons_succ]
      rfl
    refine pure_ (i := 2) (N := (some 34)) (v := ?_) (a' := ?_) #[true, true, true, false, false, false, false, false, false, false, false, false, false, false, false, false, false, false, false, false, false, false, false, false, false] rfl rfl (by kernel_rfl) (fun _ _ _ h => h) (Or.inl ⟨by rfl, ?_⟩) ?_ ?_
    rotate_left
    · intro w'
      go_simp
      try with_reducible rfl
    rotate_left
    · simp only [Act.put, List.setIfInBounds_toArray, List.set_cons_zero, List.set_cons_succ]
      rfl
    refine take_ (i := 5) (N := (some 37)) (v := .agg X) (a' := ?_) #[true, true, true, false, false, true, false, false, false, false, false, false, false, false, false, false, false, false, false, false, false, false, false, false, false] rfl rfl (by kernel_rfl) (fun _ _ _ h => h) (Or.inl ⟨by rfl, ?_⟩) hHeld ?_ ?_
    · intro w' s0
      exact exec_load_row 25 (.tmp 7) rfl q rfl 25 X (0, 0) _ s0 Try.underlying25 rfl (by rw [hszX]; exact hi32)
    rotate_left
    · simp only [Act.put, List.setIfInBounds_toArray, List.set_cons_zero, List.set_cons_succ]
      rfl
    refine one_ (i := 3) (N := (some 35)) #[true, true, true, true, false, true, false, false, false, false, false, false, false, false, false, false, false, false, false, false, false, false, false, false, false] rfl rfl (by kernel_rfl) (by decide) (fun K hK => ?_)
    rw [if_pos (by rfl)]
    go_step
    have N_u2 := Lib.hid (blk_new u1 (.cells #[.string s] 9))
    have S_u2 := Lib.hid (blk_alloc S_u1.out (.cells #[.string s] 9))
    have F_u2 := Lib.hid (below_alloc F_u1.out (.cells #[.string s] 9))
    clear S_u1 F_u1
    generalize u1.alloc _ = u2 at N_u2 S_u2 F_u2 ⊢
    generalize u1.heap.size = z_u2 at N_u2 ⊢
    refine hK.out _ _ S_u2.out (fun hHeld => ?_)
    clear hK K
    refine one_ (i := 4) (N := (some 36)) #[true, true, true, true, true, true, false, false, false, false, false, false, false, false, false, false, false, false, false, false, false, false, false, false, false] rfl rfl (by kernel_rfl) (by decide) (fun K hK => ?_)
    refine goes_ Try.func9 (by kernel_rfl) rfl #[.slice (some ⟨z_u2, 0, none⟩) 1 1] (by rfl) rfl rfl (by (try simp only [List.map_toArray, List.map_cons, List.map_nil]); first | done | rfl) ?_
    with_reducible refine (one_of s u2 z_u2 N_u2.out HN.out X HX.out).mono ?_
    rintro e u3 ⟨rfl, hb⟩
    have S_u3 := Lib.hid (blk_below S_u2.out hb)
    have F_u3 := Lib.hid (below_step F_u2.out hb)
    clear S_u2 F_u2 hb
    refine ⟨_, rfl, ?_⟩
    refine hK.out _ _ S_u3.out (fun hHeld => ?_)
    clear hK K
    refine norm_ (a' := ?_) ?_ ?_
    rotate_left
    · show Act.put _ (some 36) _ = _
      simp only [Act.put, List.setIfInBounds_toArray, List.set_cons_zero, List.set_cons_succ]
      rfl
    refine pure_ (i := 6) (N := (some 38)) (v := .bool true) (a' := ?_) #[true, true, true, true, true, true, true, false, false, false, false, false, false, false, false, false, false, false, false, false, false, false, false, false, false] rfl rfl (by kernel_rfl) (fun _ _ _ h => h) (Or.inl ⟨by rfl, ?_⟩) ?_ ?_
    · intro w'
      go_simp
    rotate_left
    · simp only [Act.put, List.setIfInBounds_toArray, List.set_cons_zero, List.set_cons_succ]
      rfl
    refine pure_ (i := 7) (N := (some 39)) (v := ?_) (a' := ?_) #[true, true, true, true, true, true, true, true, false, false, false, false, false, false, false, false, false, false, false, false, false, false, false, false, false] rfl rfl (by kernel_rfl) (fun _ _ _ h => h) (Or.inl ⟨by rfl, ?_⟩) ?_ ?_
    rotate_left
    · intro w'
      go_simp
      try with_reducible rfl
    rotate_left
    · simp only [Act.put, List.setIfInBounds_toArray, List.set_cons_zero, List.set_cons_succ]
      rfl
    refine pure_ (i := 8) (N := (some 40)) (v := ?_) (a' := ?_) #[true, true, true, true, true, true, true, true, true, false, false, false, false, false, false, false, false, false, false, false, false, false, false, false, false] rfl rfl (by kernel_rfl) (fun _ _ _ h => h) (Or.inl ⟨by rfl, ?_⟩) ?_ ?_
    rotate_left
    · intro w'
      go_simp
      try with_reducible rfl
    rotate_left
    · simp only [Act.put, List.setIfInBounds_toArray, List.set_cons_zero, List.set_cons_succ]
      rfl
    refine pure_ (i := 9) (N := (some 41)) (v := ?_) (a' := ?_) #[true, true, true, true, true, true, true, true, true, true, false, false, false, false, false, false, false, false, false, false, false, false, false, false, false] rfl rfl (by kernel_rfl) (fun _ _ _ h => h) (Or.inl ⟨by rfl, ?_⟩) ?_ ?_
    rotate_left
    · intro w'
      go_simp
      try with_reducible rfl
    rotate_left
    · simp only [Act.put, List.setIfInBounds_toArray, List.set_cons_zero, List.set_cons_succ]
      rfl
    refine pure_ (i := 10) (N := (some 42)) (v := ?_) (a' := ?_) #[true, true, true, true, true, true, true, true, true, true, true, false, false, false, false, false, false, false, false, false, false, false, false, false, false] rfl rfl (by kernel_rfl) (fun _ _ _ h => h) (Or.inl ⟨by rfl, ?_⟩) ?_ ?_
    rotate_left
    · intro w'
      go_simp
      try with_reducible rfl
    rotate_left
    · simp only [Act.put, List.setIfInBounds_toArray, List.set_cons_zero, List.set_cons_succ]
      rfl
    refine pure_ (i := 12) (N := (some 44)) (v := ?_) (a' := ?_) #[true, true, true, true, true, true, true, true, true, true, true, false, true, false, false, false, false, false, false, false, false, false, false, false, false] rfl rfl (by kernel_rfl) (fun _ _ _ h => h) (Or.inl ⟨by rfl, ?_⟩) ?_ ?_
    rotate_left
    · intro w'
      go_simp
      try with_reducible rfl
    rotate_left
    · simp only [Act.put, List.setIfInBounds_toArray, List.set_cons_zero, List.set_cons_succ]
      rfl
    refine pure_ (i := 13) (N := (some 45)) (v := ?_) (a' := ?_) #[true, true, true, true, true, true, true, true, true, true, true, false, true, true, false, false, false, false, false, false, false, false, false, false, false] rfl rfl (by kernel_rfl) (fun _ _ _ h => h) (Or.inl ⟨by rfl, ?_⟩) ?_ ?_
    rotate_left
    · intro w'
      go_simp
      try with_reducible rfl
    rotate_left
    · simp only [Act.put, List.setIfInBounds_toArray, List.set_cons_zero, List.set_cons_succ]
      rfl
    refine pure_ (i := 14) (N := (some 46)) (v := ?_) (a' := ?_) #[true, true, true, true, true, true, true, true, true, true, true, false, true, true, true, false, false, false, false, false, false, false, false, false, false] rfl rfl (by kernel_rfl) (fun _ _ _ h => h) (Or.inl ⟨by rfl, ?_⟩) ?_ ?_
    rotate_left
    · intro w'
      go_simp
      try with_reducible rfl
    rotate_left
    · simp only [Act.put, List.setIfInBounds_toArray, List.set_cons_zero, List.set_cons_succ]
      rfl
    refine pure_ (i := 16) (N := (some 48)) (v := ?_) (a' := ?_) #[true, true, true, true, true, true, true, true, true, true, true, false, true, true, true, false, true, false, false, false, false, false, false, false, false] rfl rfl (by kernel_rfl) (fun _ _ _ h => h) (Or.inl ⟨by rfl, ?_⟩) ?_ ?_
    rotate_left
    · intro w'
      go_simp
      try with_reducible rfl
    rotate_left
    · simp only [Act.put, List.setIfInBounds_toArray, List.set_cons_zero, List.set_cons_succ]
      rfl
    refine pure_ (i := 17) (N := (some 49)) (v := ?_) (a' := ?_) #[true, true, true, true, true, true, true, true, true, true, true, false, true, true, true, false, true, true, false, false, false, false, false, false, false] rfl rfl (by kernel_rfl) (fun _ _ _ h => h) (Or.inl ⟨by rfl, ?_⟩) ?_ ?_
    rotate_left
    · intro w'
      go_simp
      try with_reducible rfl
    rotate_left
    · simp only [Act.put, List.setIfInBounds_toArray, List.set_cons_zero, List.set_cons_succ]
      rfl
    refine take_ (i := 21) (N := (some 53)) (v := .agg X) (a' := ?_) #[true, true, true, true, true, true, true, true, true, true, true, false, true, true, true, false, true, true, false, false, false, true, false, false, false] rfl rfl (by kernel_rfl) (fun _ _ _ h => h) (Or.inl ⟨by rfl, ?_⟩) hHeld ?_ ?_
    · intro w' s0
      exact exec_load_row 25 (.tmp 7) rfl q rfl 25 X (0, 0) _ s0 Try.underlying25 rfl (by rw [hszX]; exact hi32)
    rotate_left
    · simp only [Act.put, List.setIfInBounds_toArray, List.set_cons_zero, List.set_cons_succ]
      rfl
    refine pure_ (i := 11) (N := (some 43)) (v := .string (s.extract 0 I)) (a' := ?_) #[true, true, true, true, true, true, true, true, true, true, true, true, true, true, true, false, true, true, false, false, false, true, false, false, false] rfl rfl (by kernel_rfl) (fun _ _ _ h => h) (Or.inl ⟨by rfl, ?_⟩) ?_ ?_
    · intro w'
      go_simp
    rotate_left
    · simp only [Act.put, List.setIfInBounds_toArray, List.set_cons_zero, List.set_cons_succ]
      rfl
    refine pure_ (i := 15) (N := (some 47)) (v := .string (s.extract I Q)) (a' := ?_) #[true, true, true, true, true, true, true, true, true, true, true, true, true, true, true, true, true, true, false, false, false, true, false, false, false] rfl rfl (by kernel_rfl) (fun _ _ _ h => h) (Or.inl ⟨by rfl, ?_⟩) ?_ ?_
    · intro w'
      go_simp
    rotate_left
    · simp only [Act.put, List.setIfInBounds_toArray, List.set_cons_zero, List.set_cons_succ]
      rfl
    refine pure_ (i := 18) (N := (some 50)) (v := .string (s.extract Q s.size)) (a' := ?_) #[true, true, true, true, true, true, true, true, true, true, true, true, true, true, true, true, true, true, true, false, false, true, false, false, false] rfl rfl (by kernel_rfl) (fun _ _ _ h => h) (Or.inl ⟨by rfl, ?_⟩) ?_ ?_
    · intro w'
      go_simp
    rotate_left
    · simp only [Act.put, List.setIfInBounds_toArray, List.set_cons_zero, List.set_cons_succ]
      rfl
    refine one_ (i := 19) (N := (some 51)) #[true, true, true, true, true, true, true, true, true, true, true, true, true, true, true, true, true, true, true, true, false, true, false, false, false] rfl rfl (by kernel_rfl) (by decide) (fun K hK => ?_)
    rw [if_pos (by rfl)]
    go_step
    have N_u4 := Lib.hid (blk_new u3 (.cells #[.string (s.extract 0 I), .string (s.extract I Q), .string ⟨#[]⟩, .string (s.extract Q s.size)] 9))
    have S_u4 := Lib.hid (blk_alloc S_u3.out (.cells #[.string (s.extract 0 I), .string (s.extract I Q), .string ⟨#[]⟩, .string (s.extract Q s.size)] 9))
    have F_u4 := Lib.hid (below_alloc F_u3.out (.cells #[.string (s.extract 0 I), .string (s.extract I Q), .string ⟨#[]⟩, .string (s.extract Q s.size)] 9))
    clear S_u3 F_u3
    generalize u3.alloc _ = u4 at N_u4 S_u4 F_u4 ⊢
    generalize u3.heap.size = z_u4 at N_u4 ⊢
    refine hK.out _ _ S_u4.out (fun hHeld => ?_)
    clear hK K
    refine one_ (i := 20) (N := (some 52)) #[true, true, true, true, true, true, true, true, true, true, true, true, true, true, true, true, true, true, true, true, true, true, false, false, false] rfl rfl (by kernel_rfl) (by decide) (fun K hK => ?_)
    refine goes_ Try.func9 (by kernel_rfl) rfl #[.slice (some ⟨z_u4, 0, none⟩) 4 4] (by rfl) rfl rfl (by (try simp only [List.map_toArray, List.map_cons, List.map_nil]); first | done | rfl) ?_
    with_reducible refine (four_of s u4 z_u4 I Q N_u4.out HN.out HIQ.out HQ.out X HX.out).mono ?_
    rintro e u5 ⟨rfl, hb⟩
    have S_u5 := Lib.hid (blk_below S_u4.out hb)
    have F_u5 := Lib.hid (below_step F_u4.out hb)
    clear S_u4 F_u4 hb
    refine ⟨_, rfl, ?_⟩
    refine hK.out _ _ S_u5.out (fun hHeld => ?_)
    clear hK K
    refine norm_ (a' := ?_) ?_ ?_
    rotate_left
    · show Act.put _ (some 52) _ = _
      simp only [Act.put, List.setIfInBounds_toArray, List.set_cons_zero, List.set_cons_succ]
      rfl
    refine pure_ (i := 22) (N := (some 54)) (v := .bool true) (a' := ?_) #[true, true, true, true, true, true, true, true, true, true, true, true, true, true, true, true, true, true, true, true, true, true, true, false, false] rfl rfl (by kernel_rfl) (fun _ _ _ h => h) (Or.inl ⟨by rfl, ?_⟩) ?_ ?_
    · intro w'
      go_simp
    rotate_left
    · simp only [Act.put, List.setIfInBounds_toArray, List.set_cons_zero, List.set_cons_succ]
      rfl
    refine pure_ (i := 23) (N := (some 55)) (v := ?_) (a' := ?_) #[true, true, true, true, true, true, true, true, true, true, true, true, true, true, true, true, true, true, true, true, true, true, true, true, false] rfl rfl (by kernel_rfl) (fun _ _ _ h => h) (Or.inl ⟨by rfl, ?_⟩) ?_ ?_
    rotate_left
    · intro w'
      go_simp
      try with_reducible rfl
    rotate_left
    · simp only [Act.put, List.setIfInBounds_toArray, List.set_cons_zero, List.set_cons_succ]
      rfl
    refine pure_ (i := 24) (N := (some 4)) (v := ?_) (a' := ?_) #[true, true, true, true, true, true, true, true, true, true, true, true, true, true, true, true, true, true, true, true, true, true, true, true, true] rfl rfl (by kernel_rfl) (fun _ _ _ h => h) (Or.inl ⟨by rfl, ?_⟩) ?_ ?_
    rotate_left
    · intro w'
      go_simp
      try with_reducible rfl
    rotate_left
    · simp only [Act.put, List.setIfInBounds_toArray, List.set_cons_zero, List.set_cons_succ]
      rfl
    refine done_ (by kernel_rfl) ?_
    go_wp2
    go_ret
    exact ⟨rfl, by first | exact F_u5.out | (rw [← hg]; exact F_u5.out)⟩
end Go.Proofs.Ytndfpidilodmgaa.Hand
