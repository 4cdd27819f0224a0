/- What Start and Turn of package sha return. -/
import Derived.Test.YtndfpidilodmgaaShaB
set_option linter.unusedSimpArgs false
set_option linter.unusedVariables false
namespace Go.Proofs.Ytndfpidilodmgaa.Hand
open Go.RowKit Go.Proofs.YtndfpidilodmgaaW.PrintWords Go.Proofs.YtndfpidilodmgaaW.PrintLast
def S0 : List Int := [1779033703, 3144134277, 1013904242, 2773480762, 1359893119, 2600822924, 528734635, 1541459225]
def TLs (L : List Int) (s : ByteArray) : List Int := TL s (L.getD 0 0, L.getD 1 0, L.getD 2 0, L.getD 3 0, L.getD 4 0, L.getD 5 0, L.getD 6 0, L.getD 7 0)
theorem list8 (L : List Int) (h : L.length = 8) : L = [L.getD 0 0, L.getD 1 0, L.getD 2 0, L.getD 3 0, L.getD 4 0, L.getD 5 0, L.getD 6 0, L.getD 7 0] := by
  match L, h with
  | [_, _, _, _, _, _, _, _], _ => rfl
theorem TL_len (s : ByteArray) (x : T8) : (TL s x).length = 8 := by rw [TL, ADD_len]; rfl
theorem TLs_len (L : List Int) (s : ByteArray) : (TLs L s).length = 8 := TL_len _ _
theorem turn_list (L : List Int) (hL : L.length = 8) (s : ByteArray) (hs : s.size = 64) (w : World) : Calls Try.prog 20 #[.agg (row L), .string s] w fun e w' => e = .returned (.agg (row (TLs L s))) ∧ Below w.heap.size w w' := by
  have h := turn_walk (L.getD 0 0) (L.getD 1 0) (L.getD 2 0) (L.getD 3 0) (L.getD 4 0) (L.getD 5 0) (L.getD 6 0) (L.getD 7 0) s hs w
  unfold TLs
  have e := list8 L hL
  rw [show row L = row [L.getD 0 0, L.getD 1 0, L.getD 2 0, L.getD 3 0, L.getD 4 0, L.getD 5 0, L.getD 6 0, L.getD 7 0] from congrArg row e]
  exact h
theorem results_cell_tmp {P : Program} {fn : Func} {p q : Tmp} {ty : TypeId} (h : fn.results = #[.cell p ty, .tmp q]) (tmps : Array Value) (w : World) (g : Nat) (t : TypeId) (cs : Array Value) (fr : Nat × Nat) (d : TypeDesc)
    (hp : tmps.getD p undef = .pointer (some ⟨g, 0, none⟩)) (hg : w.heap[g]? = some (.cells cs t fr))
    (hu : P.underlying ty = some d) (hd : (match d with | .struct _ | .array _ _ => true | _ => false) = true) (hi : (P.info? ty).map (·.size) = some cs.size) (v : Value) (hv : tmps.getD q undef = v) :
    (results fn tmps).run P w = .ok (.tuple #[.agg cs, v]) w := by
  have hp' : tmps[p]?.getD undef = .pointer (some ⟨g, 0, none⟩) := by simpa using hp
  have hv' : tmps[q]?.getD undef = v := by simpa using hv
  simp [results, h, hp', hv', asAddr, run_loadVar_row w g t ty cs fr d hg hu hd hi]
set_option maxRecDepth 100000 in
theorem start_walk (w : World) : Calls Try.prog 15 #[] w fun e w' => e = .returned (.agg (row S0)) ∧ Below w.heap.size w w' := by
  go_enter Try.func15, Try.ntmps15
  go_upto_region 1 with (fail)
  go_step
  refine wpList_build_to rfl 33 _ rfl (row S0) (by kernel_rfl) ?_
  have hi8 : (Try.prog.info? 33).map (·.size) = some 8 := by kernel_rfl
  have S := Lib.hid (heap_alloc_new w (.cells #[.int .u32 0, .int .u32 0, .int .u32 0, .int .u32 0, .int .u32 0, .int .u32 0, .int .u32 0, .int .u32 0] 33))
  have F := Lib.hid (below_alloc (Below.refl w.heap.size w) (.cells #[.int .u32 0, .int .u32 0, .int .u32 0, .int .u32 0, .int .u32 0, .int .u32 0, .int .u32 0, .int .u32 0] 33))
  generalize w.alloc _ = w1 at S F ⊢
  obtain ⟨g, hg⟩ : ∃ g, w.heap.size = g := ⟨_, rfl⟩
  rw [hg] at S ⊢
  have hg0 : w.heap.size ≤ g := by omega
  refine wpList_store_row rfl 33 _ _ rfl g (row S0) rfl rfl 33 _ S.out hi8 rfl (row_one _) ?_
  have S3 := Lib.hid (setRow_heap w1 g _ (row S0) 33 (0, 0) S.out)
  have F3 : Hid (Below w.heap.size w (w1.setRow g (row S0))) := Lib.hid (below_row F.out hg0)
  clear S F
  generalize w1.setRow g _ = w9 at S3 F3 ⊢
  go_wp2
  refine bodyPost_ret (results_cell_row rfl _ _ g 33 (row S0) (0, 0) _ rfl S3.out Try.underlying33 rfl hi8) rfl ?_
  exact ⟨rfl, F3.out⟩
set_option maxRecDepth 100000 in
theorem Turn_walk (L : List Int) (hL : L.length = 8) (s : ByteArray) (w : World) : Calls Try.prog 12 #[.agg (row L), .string s] w fun e w' => e = .returned (.tuple #[.agg (row (if s.size = 64 then TLs L s else [0, 0, 0, 0, 0, 0, 0, 0])), .int .i64 (if s.size = 64 then 0 else 1)]) ∧ Below w.heap.size w w' := by
  have hszL : (row L).size = 8 := by rw [row, List.size_toArray, List.length_map, hL]
  have hi8 : (Try.prog.info? 33).map (·.size) = some 8 := by kernel_rfl
  obtain ⟨LL, hLL⟩ : ∃ M, row L = M := ⟨_, rfl⟩
  have one := row_one L
  have HT := fun hs w => turn_list L hL s hs w
  have HO := row_one (TLs L s)
  have hszO : (row (TLs L s)).size = 8 := by rw [row, List.size_toArray, List.length_map, TLs_len]
  obtain ⟨OO, hOO⟩ : ∃ M, row (TLs L s) = M := ⟨_, rfl⟩
  rw [hLL] at HT hszL one ⊢
  rw [hOO] at HO hszO
  have HT2 : Hid (s.size = 64 → ∀ w, Calls Try.prog 20 #[.agg LL, .string s] w fun e w' => e = .returned (.agg OO) ∧ Below w.heap.size w w') := Lib.hid (fun hs w => hOO ▸ HT hs w)
  have HOO := Lib.hid hOO
  have ONE := Lib.hid one
  have HO1 := Lib.hid HO
  have Z := row_one [0, 0, 0, 0, 0, 0, 0, 0]
  clear HT hLL hOO one HO
  have S1 := Lib.hid (blk_alloc (blk_new w (.cells LL 33)) (.cells (row [0, 0, 0, 0, 0, 0, 0, 0]) 33))
  have S2 := Lib.hid (heap_alloc2_new w (.cells LL 33) (.cells (row [0, 0, 0, 0, 0, 0, 0, 0]) 33))
  have F := Lib.hid (below_alloc (below_alloc (Below.refl w.heap.size w) (.cells LL 33)) (.cells (row [0, 0, 0, 0, 0, 0, 0, 0]) 33))
  by_cases hs : s.size = 64
  · have hsI : (s.size : Int) = 64 := by omega
    rw [if_pos hs, if_pos hs, HOO.out]
    go_enter Try.func12, Try.ntmps12
    go_upto_region 3 with (fail)
    go_step
    change wpList _ _ _ _ _ ((w.alloc (.cells LL 33)).alloc (.cells (row [0, 0, 0, 0, 0, 0, 0, 0]) 33))
    generalize (w.alloc _).alloc _ = w1 at S1 S2 F ⊢
    obtain ⟨g, hg⟩ : ∃ g, w.heap.size = g := ⟨_, rfl⟩
    have hg1 : w.heap.size ≤ g + 1 := by omega
    rw [hg] at S1 S2 ⊢
    refine wpList_load_row rfl 33 _ rfl g rfl 33 _ _ _ S1.out Try.underlying33 rfl (by rw [hszL]; exact hi8) ?_
    iterate 5 go_step
    (with_reducible refine (HT2.out hs _).mono ?_)
    rintro e w2 ⟨rfl, hb⟩
    dsimp only
    go_step
    have S3 := Lib.hid (blk_below S2.out hb)
    have F3 := Lib.hid (below_step F.out hb)
    clear S1 S2 F hb
    refine wpList_store_row rfl 33 _ _ rfl (g + 1) OO rfl rfl 33 _ S3.out (by rw [hszO]; exact hi8) (by rw [hszO]; rfl) HO1.out ?_
    have S4 := Lib.hid (setRow_heap w2 (g + 1) _ OO 33 (0, 0) S3.out)
    have F4 : Hid (Below w.heap.size w (w2.setRow (g + 1) OO)) := Lib.hid (below_row F3.out hg1)
    clear S3 F3
    generalize w2.setRow _ _ = w9 at S4 F4 ⊢
    go_wp2
    exact bodyPost_ret (v := .tuple #[.agg OO, .int .i64 0]) (results_cell_tmp rfl _ _ (g + 1) 33 OO (0, 0) _ rfl S4.out Try.underlying33 rfl (by rw [hszO]; exact hi8) _ rfl) rfl ⟨rfl, F4.out⟩
  · have hsI : ¬ (s.size : Int) = 64 := by omega
    rw [if_neg hs, if_neg hs]
    go_enter Try.func12, Try.ntmps12
    go_upto_region 2 with (fail)
    go_step
    change wpList _ _ _ _ _ ((w.alloc (.cells LL 33)).alloc (.cells (row [0, 0, 0, 0, 0, 0, 0, 0]) 33))
    generalize (w.alloc _).alloc _ = w1 at S1 S2 F ⊢
    obtain ⟨g, hg⟩ : ∃ g, w.heap.size = g := ⟨_, rfl⟩
    have hg1 : w.heap.size ≤ g + 1 := by omega
    rw [hg] at S1 S2 ⊢
    refine wpList_build_to rfl 33 _ rfl (row [0, 0, 0, 0, 0, 0, 0, 0]) (by kernel_rfl) ?_
    refine wpList_store_row rfl 33 _ _ rfl (g + 1) (row [0, 0, 0, 0, 0, 0, 0, 0]) rfl rfl 33 _ S2.out hi8 rfl Z ?_
    have S3 := Lib.hid (setRow_heap w1 (g + 1) _ (row [0, 0, 0, 0, 0, 0, 0, 0]) 33 (0, 0) S2.out)
    have F3 : Hid (Below w.heap.size w (w1.setRow (g + 1) (row [0, 0, 0, 0, 0, 0, 0, 0]))) := Lib.hid (below_row F.out hg1)
    clear S1 S2 F
    generalize w1.setRow _ _ = w9 at S3 F3 ⊢
    go_wp2
    exact bodyPost_ret (v := .tuple #[.agg (row [0, 0, 0, 0, 0, 0, 0, 0]), .int .i64 1]) (results_cell_tmp rfl _ _ (g + 1) 33 (row [0, 0, 0, 0, 0, 0, 0, 0]) (0, 0) _ rfl S3.out Try.underlying33 rfl hi8 _ rfl) rfl ⟨rfl, F3.out⟩
end Go.Proofs.Ytndfpidilodmgaa.Hand
