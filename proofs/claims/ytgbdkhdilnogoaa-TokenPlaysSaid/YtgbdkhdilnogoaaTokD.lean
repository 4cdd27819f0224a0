/- TokenPlays: which tokens are called off and why, behind any acts: the walk of the law. -/
import Derived.Test.YtgbdkhdilnogoaaTokE
import Derived.Laws.MakeOwn
namespace Go.Proofs.Ytgbdkhdilnogoaa.Hand
open Go.RowKit Go.Proofs.YtgbdkhdilnogoaaW.PrintWords Go.Proofs.YtgbdkhdilnogoaaW.PrintLast
theorem at_val (x : Int) (m : Nat) (h1 : 1 ≤ m) (h2 : m ≤ 61) : ∃ a : Nat, a < m ∧ wrap64 (Int.tmod (IntKind.u64.wrap x) (m : Int)) = (a : Int) := by
  have hw : 0 ≤ IntKind.u64.wrap x := by rw [IntKind.wrap_u64]; omega
  obtain ⟨X, hX⟩ : ∃ X : Nat, IntKind.u64.wrap x = (X : Int) := ⟨(IntKind.u64.wrap x).toNat, by omega⟩
  have hlt : X % m < m := Nat.mod_lt _ h1
  refine ⟨X % m, hlt, ?_⟩
  rw [hX, show Int.tmod (X : Int) (m : Int) = ((X % m : Nat) : Int) from rfl]
  generalize X % m = r at hlt ⊢
  unfold wrap64
  omega
theorem and_three (x : Int) : ∃ y : Int, bits .and .i64 x 3 = y ∧ (y = 0 ∨ y = 1 ∨ y = 2 ∨ y = 3) := by
  refine ⟨x % 4, ?_, by omega⟩
  have h3 : (BitVec.ofInt 64 3).toNat = 2 ^ 2 - 1 := by decide
  have key : (BitVec.ofInt 64 x &&& BitVec.ofInt 64 3).toNat = (x % ((2 ^ 64 : Nat) : Int)).toNat % 2 ^ 2 := by
    rw [BitVec.toNat_and, BitVec.toNat_ofInt, h3, Nat.and_two_pow_sub_one_eq_mod]
  show IntKind.i64.wrap ((BitVec.ofInt 64 x &&& BitVec.ofInt 64 3).toNat : Nat) = x % 4
  rw [key, IntKind.wrap_i64]
  omega
theorem info_of (e : TypeId) (z : Value) (by_ : Nat) (h : (Try.prog.info? e).map (fun i => (i.zero, i.size, i.bytes)) = some (some z, 1, by_)) : ∃ i, Try.prog.info? e = some i ∧ i.zero = some z ∧ i.size = 1 ∧ i.bytes = by_ := by
  cases hh : Try.prog.info? e with
  | none => rw [hh] at h; cases h
  | some i => rw [hh] at h; injection h with h; injection h with e1 h; injection h with e2 e3; exact ⟨i, rfl, e1, e2, e3⟩
theorem G_drewN {w0 W : World} {f : Nat} {v3 vP vO : Value} {T Ta : List Nat} {P O Pa Oa : List Int} (h : G w0 W f v3 vP vO T P O Ta Pa Oa) (m : Nat) : G w0 (W.drewN m) f v3 vP vO T P O Ta Pa Oa :=
  ⟨⟨h.tok.lenP, h.tok.lenO, h.tok.cell, h.tok.up, h.tok.inj⟩, h.all, h.box, h.rowP, h.rowO, h.low, h.toks, below_step h.bel (pw_below_drewN (Below.refl _ _) m)⟩
theorem G.set_O {w0 W : World} {f : Nat} {v3 vP : Value} {T Ta : List Nat} {P O Pa Oa : List Int} {g c : Nat} (h : G w0 W f v3 vP (.slice (some ⟨g, 0, none⟩) Oa.length c) T P O Ta Pa Oa) (a : Nat) (x : Int) : G w0 (W.setCell ⟨g, a, none⟩ (.int .i64 x)) f v3 vP (.slice (some ⟨g, 0, none⟩) (Oa.set a x).length c) T P O Ta Pa (Oa.set a x) := by
  obtain ⟨ho, hg⟩ := h.rowO.stored a (.int .i64 x)
  have hs : (Oa.set a x).length = Oa.length := List.length_set
  refine ⟨h.tok.own h.rowO (by decide) hg, h.all.kept hg (own_own h.all h.rowO (by decide)), ?_, h.rowP.kept hg (own_own h.rowP h.rowO (by decide)), ?_, h.low, h.toks, h.bel.grown hg (below_size h.bel) (fun k hk => (h.rowO.lt k hk).1)⟩
  · rw [hs]
    exact kept_block hg h.box (own_ne h.rowO h.box (by decide))
  · rw [hs, nums, List.map_set]
    exact ho
theorem next_val (k n : Nat) (h : k < n) (hn : n ≤ 100) : Value.int .i64 (wrap64 ((k : Int) + 1)) = .int .i64 ((k + 1 : Nat) : Int) := by
  congr 1
  unfold wrap64
  omega
theorem next_meas (k n : Nat) (h : k < n) (hn : n ≤ 100) : 1000 - (intOf (Value.int .i64 (wrap64 ((k : Int) + 1)))).toNat < 1000 - (intOf (Value.int .i64 (k : Int))).toNat := by
  rw [next_val k n h hn]
  simp only [intOf]
  omega
theorem own_cells {W : World} {B e m : Nat} {v : Value} {xs : List Value} (h : W.ownsRow B e 1 v m xs) (hm : 1 ≤ m) : ∃ g c, v = .slice (some ⟨g, 0, none⟩) m c ∧ ∀ j u, xs[j]? = some u → W.cell? ⟨g, j, none⟩ = some u := by
  rcases h.2 with ⟨_, hz⟩ | ⟨g, cap, cur, rfl, _⟩
  · omega
  · refine ⟨g, cap, rfl, fun j u hj => ?_⟩
    have hc := h.cells (g := g) rfl j u hj
    have ha : (⟨g, 0, none⟩ : Addr).add j = ⟨g, j, none⟩ := by
      unfold Addr.add
      split
      · rename_i h0; subst h0; rfl
      · simp
    rw [ha] at hc
    exact hc
theorem own_succ {W : World} {B e m : Nat} {v : Value} {xs : List Value} (h : W.ownsRow B e 1 v (m + 1) xs) : ∃ g c, v = .slice (some ⟨g, 0, none⟩) (m + 1) c := by
  rcases h.2 with ⟨_, hz⟩ | ⟨g, cap, cur, e1, _⟩
  · omega
  · exact ⟨g, cap, e1⟩
theorem own_lit (W : World) (B e : Nat) (x : Value) (hB : B ≤ W.heap.size) : (W.alloc (.cells #[x] e)).ownsRow B e 1 (.slice (some ⟨W.heap.size, 0, none⟩) 1 1) 1 [x] :=
  ⟨rfl, .inr ⟨W.heap.size, 1, #[x], rfl, hB, heap_alloc_new W _, by decide, by decide, rfl, rfl⟩⟩
theorem two_start (w w1 : World) (hw1 : w.alloc (.cells #[.pointer none, .int .i64 0] 42) = w1) : G w ((((w1.alloc (.cells #[.pointer (some ⟨w.heap.size, 0, none⟩)] 24)).alloc (.cells #[.int .i64 (-1)] 3)).alloc (.cells #[.int .i64 0] 29)).alloc (.cells #[.slice (some ⟨w1.heap.size + 1, 0, none⟩) 1 1, .slice (some ⟨w1.heap.size + 1 + 1, 0, none⟩) 1 1] 32)) (w1.heap.size + 1 + 1 + 1) (.slice (some ⟨w1.heap.size, 0, none⟩) 1 1) (.slice (some ⟨w1.heap.size + 1, 0, none⟩) 1 1) (.slice (some ⟨w1.heap.size + 1 + 1, 0, none⟩) 1 1) [w.heap.size] [-1] [0] [w.heap.size] [-1] [0] := by
  have hs : w1.heap.size = w.heap.size + 1 := by rw [← hw1, World.size_alloc]
  have t0 : Tok w [] [] [] := ⟨rfl, rfl, fun k hk => by simp at hk, fun k hk => by simp at hk, fun j k hj => by simp at hj⟩
  have t1 : Tok w1 [w.heap.size] [-1] [0] := by
    have := t0.push (-1) (by omega) (by simp)
    rw [show ptr [] (-1) = none from rfl, hw1] at this
    exact this
  have key : ∀ (W : World) (o : Obj) (T : List Nat) (P O : List Int), Tok W T P O → Tok (W.alloc o) T P O := fun W o T P O h => h.kept (World.grownBy_alloc W o none) (fun k hk => by simp)
  have b0 : Below w.heap.size w w1 := by rw [← hw1]; exact below_alloc (Below.refl _ _) _
  have o1 := own_lit w1 w.heap.size 24 (.pointer (some ⟨w.heap.size, 0, none⟩)) (by omega)
  have o2 := own_lit (w1.alloc (.cells #[.pointer (some ⟨w.heap.size, 0, none⟩)] 24)) w.heap.size 3 (.int .i64 (-1)) (by rw [World.size_alloc]; omega)
  have o3 := own_lit ((w1.alloc (.cells #[.pointer (some ⟨w.heap.size, 0, none⟩)] 24)).alloc (.cells #[.int .i64 (-1)] 3)) w.heap.size 29 (.int .i64 0) (by rw [World.size_alloc, World.size_alloc]; omega)
  have bx := heap_alloc_new (((w1.alloc (.cells #[.pointer (some ⟨w.heap.size, 0, none⟩)] 24)).alloc (.cells #[.int .i64 (-1)] 3)).alloc (.cells #[.int .i64 0] 29)) (.cells #[.slice (some ⟨w1.heap.size + 1, 0, none⟩) 1 1, .slice (some ⟨w1.heap.size + 1 + 1, 0, none⟩) 1 1] 32)
  rw [World.size_alloc, World.size_alloc, World.size_alloc] at bx
  rw [World.size_alloc, World.size_alloc] at o3
  rw [World.size_alloc] at o2
  refine ⟨key _ _ _ _ _ (key _ _ _ _ _ (key _ _ _ _ _ (key _ _ _ _ _ t1))), ((o1.alloc _).alloc _).alloc _, bx, (o2.alloc _).alloc _, o3.alloc _, by omega, fun k hk => ?_, below_alloc (below_alloc (below_alloc (below_alloc b0 _) _) _) _⟩
  have hk0 : k = 0 := by simpa using hk
  subst hk0
  exact Nat.le_refl _
set_option maxRecDepth 100000 in
set_option maxHeartbeats 3200000 in
theorem TokenPlays_walk (A : Option Addr) (n c : Nat) (L : List (List Int)) (w : World)
    (hc : 0 < n → ∃ ab ao, A = some ⟨ab, ao, none⟩ ∧ ab < w.heap.size ∧ ∀ i, i < n → ∀ j, j < 3 → w.cell? ⟨ab, ao + i * 3 + j, none⟩ = some (.int .i64 ((L.getD i []).getD j 0))) :
    Calls Try.prog 3 #[.slice A n c] w fun e w' => e = .returned (.bool true) ∧ Below w.heap.size w w' := by
  obtain ⟨t24, t241, t242, t243, t244⟩ := info_of 24 (.pointer none) 8 (by kernel_rfl)
  obtain ⟨t3, t31, t32, t33, t34⟩ := info_of 3 (.int .i64 0) 8 (by kernel_rfl)
  obtain ⟨t29, t291, t292, t293, t294⟩ := info_of 29 (.int .i64 0) 8 (by kernel_rfl)
  by_cases hbig : 60 < n
  · have hb2 : (60 : Int) < (n : Int) := by omega
    go_enter Try.func3, Try.ntmps3
    go_wp2_with (go_at_call 4; (with_reducible refine (awake_any _).mono ?_); rintro e w2 ⟨rfl, hb⟩)
    go_ret
    exact ⟨rfl, hb⟩
  · have hb2 : ¬ (60 : Int) < (n : Int) := by omega
    go_enter Try.func3, Try.ntmps3
    go_upto_region 3 with (fail)
    go_step
    iterate 2 go_step
    (with_reducible refine (new_any _).mono ?_)
    rintro e w1 ⟨rfl, hw1⟩
    dsimp only
    go_upto_region 5 with (fail)
    have ST := Lib.hid (two_start w w1 hw1)
    generalize ((((w1.alloc _).alloc _).alloc _).alloc _) = w5 at ST ⊢
    obtain ⟨f, hf⟩ : ∃ f, w1.heap.size + 1 + 1 + 1 = f := ⟨_, rfl⟩
    rw [hf] at ST ⊢
    have HC := Lib.hid hc
    clear hc
    clear hw1 hf
    go_wp2_with fail
    go_loopw [5, 3] (fun v5 v3 wr => ∃ (i : Nat) (T : List Nat) (P O : List Int) (vP vO : Value), i ≤ n ∧ T.length ≤ i + 1 ∧ 1 ≤ T.length ∧ v5 = .int .i64 i ∧ Hid (G w wr f v3 vP vO T P O T P O)) (fun v5 _ _ => 100 - (intOf v5).toNat)
    case atStart => exact ⟨0, _, _, _, _, _, by omega, by simp, by simp, rfl, ST⟩
    case round =>
      clear ST
      obtain ⟨i, T, P, O, vP, vO, hi, hTi, hT1, rfl, ST⟩ := hrel
      by_cases h : i < n
      · have hlt : (i : Int) < (n : Int) := by omega
        have hi0 : (0 : Int) ≤ (i : Int) := by omega
        obtain ⟨g3, c3, cur3, hv3, hg3⟩ : ∃ g3 c3 cur3, u3 = .slice (some ⟨g3, 0, none⟩) T.length c3 ∧ wr.heap[g3]? = some (.cells cur3 24 (0, 0)) := by
          rcases ST.out.all.2 with ⟨_, hz⟩ | ⟨g, cap, cur, e, _, hgg, _⟩
          · omega
          · exact ⟨g, cap, cur, e, hgg⟩
        subst hv3
        obtain ⟨ab, ao, hA, hb', hcc⟩ := HC.out (Nat.lt_of_le_of_lt (Nat.zero_le _) h)
        subst hA
        have q0 : w.cell? ⟨ab, ao + i * 3, none⟩ = _ := hcc i h 0 (by decide)
        have q1 := hcc i h 1 (by decide)
        have q2 := hcc i h 2 (by decide)
        clear hcc
        have r0 := (ST.out.bel.cell hb').trans q0
        have r1 := (ST.out.bel.cell hb').trans q1
        have r2 := (ST.out.bel.cell hb').trans q2
        generalize (L.getD i []).getD 0 0 = x0 at r0
        generalize (L.getD i []).getD 1 0 = x1 at r1
        generalize (L.getD i []).getD 2 0 = x2 at r2
        clear q0 q1 q2
        have hT2 : T.length ≤ 61 := by omega
        go_upto_region 8 with (fail)
        go_step
        iterate 40 go_step
        obtain ⟨a, ha, hav⟩ := at_val x1 T.length hT1 hT2
        rw [hav]
        clear hav
        go_cut [3] (fun v3 wc => ∃ (T' : List Nat) (P' O' : List Int) (vP' vO' : Value), T'.length ≤ i + 1 + 1 ∧ 1 ≤ T'.length ∧ Hid (G w wc f v3 vP' vO' T' P' O' T' P' O'))
        case first =>
          go_upto_region 9 with (fail)
          obtain ⟨y, hy, hy4⟩ := and_three x0
          go_upto_region 16 with (fail)
          clear hy
          have HT2 := Lib.hid hT2
          have hLP : Hid (P.length ≤ 61) := Lib.hid (by rw [ST.out.tok.lenP]; exact hT2)
          have hLO : Hid (O.length ≤ 61) := Lib.hid (by rw [ST.out.tok.lenO]; exact hT2)
          have HTI := Lib.hid hTi
          clear hT2 hTi
          have kA : wr.cell? ⟨g3, a, none⟩ = some (.pointer (some ⟨T.getD a 0, 0, none⟩)) := by
            obtain ⟨g_, c_, e_, hc_⟩ := own_cells ST.out.all hT1
            injection e_ with e1_ _ _
            injection e1_ with e1_
            injection e1_ with e1_ _ _
            subst e1_
            exact hc_ a _ (by rw [tptrs, List.getElem?_map, List.getElem?_eq_getElem ha, List.getD_eq_getElem?_getD, List.getElem?_eq_getElem ha]; rfl)
          obtain ⟨ta, hta⟩ : ∃ b, T.getD a 0 = b := ⟨_, rfl⟩
          rw [hta] at kA
          have HTA := Lib.hid hta
          clear hta
          have haI : (a : Int) < (T.length : Int) := by omega
          have haI0 : (0 : Int) ≤ (a : Int) := by omega
          rcases hy4 with rfl | rfl | rfl | rfl
          · go_upto_region 17 with (fail)
            go_step
            iterate 5 go_step
            (with_reducible refine (new_any wr).mono ?_)
            rintro e w2 ⟨rfl, hw2⟩
            have G2 : Hid (G w w2 f (.slice (some ⟨g3, 0, none⟩) T.length c3) vP vO (T ++ [wr.heap.size]) (P ++ [-1]) (O ++ [0]) T P O) := Lib.hid (by rw [← hw2]; exact ST.out.push (-1) (by omega) (by omega))
            clear hw2 r0 r1 r2 hg3
            dsimp only
            go_step
            iterate 3 go_step
            obtain ⟨x, hx⟩ : ∃ x, wr.heap.size = x := ⟨_, rfl⟩
            rw [hx] at G2 ⊢
            clear hx
            have N_ := Lib.hid (blk_new w2 (.cells #[.pointer (some ⟨x, 0, none⟩)] 24))
            have G_ := Lib.hid (G2.out.alloc (.cells #[.pointer (some ⟨x, 0, none⟩)] 24))
            clear G2
            generalize w2.alloc _ = w3 at N_ G_ ⊢
            generalize w2.heap.size = z_w3 at N_ ⊢
            refine wpList_append_own w3 rfl (.tmp 80) (.tmp 82) 26 rfl w.heap.size 24 t24 (.pointer none) 1 8 Try.underlying26 t241 t242 t243 t244 rfl (by decide) (.slice (some ⟨g3, 0, none⟩) T.length c3) T.length (tptrs T) rfl G_.out.all ⟨z_w3, 0, none⟩ 1 1 [.pointer (some ⟨x, 0, none⟩)] rfl rfl ?_ ?_ ?_ ?_ (below_size G_.out.bel) ?_
            · intro j u hj
              match j, hj with
              | 0, hj => exact ((blk_cell N_.out 0).trans hj)
            · intro u hu
              simp only [List.mem_cons, List.not_mem_nil, or_false] at hu
              subst hu
              rfl
            · have := HT2.out; simp only [maxLen]; omega
            · have := HT2.out; omega
            intro v4 w4 hown hgr _
            obtain ⟨gq_, cq_, rfl⟩ := own_succ hown
            have G4 := Lib.hid (G_.out.app_all hown hgr)
            clear G_ N_ hown hgr
            have kP : w4.cell? ⟨f, 0, none⟩ = some vP := blk_cell G4.out.box 0
            go_upto_region 18 with (fail)
            go_step
            iterate 18 go_step
            clear kP
            have N_ := Lib.hid (blk_new w4 (.cells #[.int .i64 (-1)] 3))
            have G_ := Lib.hid (G4.out.alloc (.cells #[.int .i64 (-1)] 3))
            clear G4
            generalize w4.alloc _ = w5 at N_ G_ ⊢
            generalize w4.heap.size = z_w5 at N_ ⊢
            refine wpList_append_own w5 rfl (.tmp 88) (.tmp 89) 28 rfl w.heap.size 3 t3 (.int .i64 0) 1 8 Try.underlying28 t31 t32 t33 t34 rfl (by decide) vP P.length (nums .i64 P) rfl G_.out.rowP ⟨z_w5, 0, none⟩ 1 1 [.int .i64 (-1)] rfl rfl ?_ ?_ ?_ ?_ (below_size G_.out.bel) ?_
            · intro j u hj
              match j, hj with
              | 0, hj => exact ((blk_cell N_.out 0).trans hj)
            · intro u hu
              simp only [List.mem_cons, List.not_mem_nil, or_false] at hu
              subst hu
              rfl
            · have := hLP.out; simp only [maxLen]; omega
            · have := hLP.out; omega
            intro vP' w6 hown hgr _
            obtain ⟨gq_, cq_, rfl⟩ := own_succ hown
            have G6 := Lib.hid (G_.out.app_P hown hgr)
            have bx_ := Lib.hid (kept_block hgr G_.out.box (own_ne G_.out.rowP G_.out.box (by decide)))
            clear G_ N_ hown hgr
            have kP : w6.cell? ⟨f, 0, none⟩ = some vP := blk_cell bx_.out 0
            have kF : w6.frozen? ⟨f, 0, none⟩ = false := blk_frozen bx_.out 0
            go_upto_region 19 with (fail)
            clear kP kF bx_
            generalize w6.setCell ⟨f, 0, none⟩ _ = w7 at G6 ⊢
            have kO : w7.cell? ⟨f, 1, none⟩ = some vO := blk_cell G6.out.box 1
            go_step
            iterate 18 go_step
            clear kO
            have N_ := Lib.hid (blk_new w7 (.cells #[.int .i64 0] 29))
            have G_ := Lib.hid (G6.out.alloc (.cells #[.int .i64 0] 29))
            clear G6
            generalize w7.alloc _ = w8 at N_ G_ ⊢
            generalize w7.heap.size = z_w8 at N_ ⊢
            refine wpList_append_own w8 rfl (.tmp 97) (.tmp 98) 30 rfl w.heap.size 29 t29 (.int .i64 0) 1 8 Try.underlying30 t291 t292 t293 t294 rfl (by decide) vO O.length (nums .i64 O) rfl G_.out.rowO ⟨z_w8, 0, none⟩ 1 1 [.int .i64 0] rfl rfl ?_ ?_ ?_ ?_ (below_size G_.out.bel) ?_
            · intro j u hj
              match j, hj with
              | 0, hj => exact ((blk_cell N_.out 0).trans hj)
            · intro u hu
              simp only [List.mem_cons, List.not_mem_nil, or_false] at hu
              subst hu
              rfl
            · have := hLO.out; simp only [maxLen]; omega
            · have := hLO.out; omega
            intro vO' w9 hown hgr _
            obtain ⟨gq_, cq_, rfl⟩ := own_succ hown
            have G9 := Lib.hid (G_.out.app_O hown hgr)
            have bx_ := Lib.hid (kept_block hgr G_.out.box (own_ne G_.out.rowO G_.out.box (by decide)))
            clear G_ N_ hown hgr
            have kP : w9.cell? ⟨f, 1, none⟩ = some vO := blk_cell bx_.out 1
            have kF : w9.frozen? ⟨f, 1, none⟩ = false := blk_frozen bx_.out 1
            have hT3 : (T ++ [x]).length ≤ i + 1 + 1 := by have := HTI.out; rw [List.length_append, List.length_singleton]; omega
            have hT4 : 1 ≤ (T ++ [x]).length := by rw [List.length_append, List.length_singleton]; omega
            have hT5 : (T ++ [x]).length ≤ 62 := by have := HT2.out; rw [List.length_append, List.length_singleton]; omega
            go_wp2_with fail
            clear kP kF bx_
            generalize w9.setCell ⟨f, 1, none⟩ _ = w10 at G9 ⊢
            go_meet
            exact ⟨T ++ [x], P ++ [-1], O ++ [0], _, _, hT3, hT4, G9⟩
          · go_upto_region 22 with (fail)
            go_step
            iterate 17 go_step
            (with_reducible refine (child_any (some ⟨ta, 0, none⟩) wr).mono ?_)
            rintro e w2 ⟨rfl, hw2⟩
            have G2 : Hid (G w w2 f (.slice (some ⟨g3, 0, none⟩) T.length c3) vP vO (T ++ [wr.heap.size]) (P ++ [(a : Int)]) (O ++ [0]) T P O) := Lib.hid (by
              have := ST.out.push (a : Int) (by omega) (by omega)
              rw [show ptr T (a : Int) = some ⟨ta, 0, none⟩ by unfold ptr; rw [if_neg (by omega), Int.toNat_natCast, HTA.out]] at this
              rw [← hw2]
              exact this)
            clear hw2 r0 r1 r2 hg3 kA
            dsimp only
            go_step
            iterate 3 go_step
            obtain ⟨x, hx⟩ : ∃ x, wr.heap.size = x := ⟨_, rfl⟩
            rw [hx] at G2 ⊢
            clear hx
            have N_ := Lib.hid (blk_new w2 (.cells #[.pointer (some ⟨x, 0, none⟩)] 24))
            have G_ := Lib.hid (G2.out.alloc (.cells #[.pointer (some ⟨x, 0, none⟩)] 24))
            clear G2
            generalize w2.alloc _ = w3 at N_ G_ ⊢
            generalize w2.heap.size = z_w3 at N_ ⊢
            refine wpList_append_own w3 rfl (.tmp 105) (.tmp 111) 26 rfl w.heap.size 24 t24 (.pointer none) 1 8 Try.underlying26 t241 t242 t243 t244 rfl (by decide) (.slice (some ⟨g3, 0, none⟩) T.length c3) T.length (tptrs T) rfl G_.out.all ⟨z_w3, 0, none⟩ 1 1 [.pointer (some ⟨x, 0, none⟩)] rfl rfl ?_ ?_ ?_ ?_ (below_size G_.out.bel) ?_
            · intro j u hj
              match j, hj with
              | 0, hj => exact ((blk_cell N_.out 0).trans hj)
            · intro u hu
              simp only [List.mem_cons, List.not_mem_nil, or_false] at hu
              subst hu
              rfl
            · have := HT2.out; simp only [maxLen]; omega
            · have := HT2.out; omega
            intro v4 w4 hown hgr _
            obtain ⟨gq_, cq_, rfl⟩ := own_succ hown
            have G4 := Lib.hid (G_.out.app_all hown hgr)
            clear G_ N_ hown hgr
            have kP : w4.cell? ⟨f, 0, none⟩ = some vP := blk_cell G4.out.box 0
            go_upto_region 23 with (fail)
            go_step
            iterate 21 go_step
            clear kP
            have N_ := Lib.hid (blk_new w4 (.cells #[.int .i64 (a : Int)] 3))
            have G_ := Lib.hid (G4.out.alloc (.cells #[.int .i64 (a : Int)] 3))
            clear G4
            generalize w4.alloc _ = w5 at N_ G_ ⊢
            generalize w4.heap.size = z_w5 at N_ ⊢
            refine wpList_append_own w5 rfl (.tmp 117) (.tmp 119) 28 rfl w.heap.size 3 t3 (.int .i64 0) 1 8 Try.underlying28 t31 t32 t33 t34 rfl (by decide) vP P.length (nums .i64 P) rfl G_.out.rowP ⟨z_w5, 0, none⟩ 1 1 [.int .i64 (a : Int)] rfl rfl ?_ ?_ ?_ ?_ (below_size G_.out.bel) ?_
            · intro j u hj
              match j, hj with
              | 0, hj => exact ((blk_cell N_.out 0).trans hj)
            · intro u hu
              simp only [List.mem_cons, List.not_mem_nil, or_false] at hu
              subst hu
              rfl
            · have := hLP.out; simp only [maxLen]; omega
            · have := hLP.out; omega
            intro vP' w6 hown hgr _
            obtain ⟨gq_, cq_, rfl⟩ := own_succ hown
            have G6 := Lib.hid (G_.out.app_P hown hgr)
            have bx_ := Lib.hid (kept_block hgr G_.out.box (own_ne G_.out.rowP G_.out.box (by decide)))
            clear G_ N_ hown hgr
            have kP : w6.cell? ⟨f, 0, none⟩ = some vP := blk_cell bx_.out 0
            have kF : w6.frozen? ⟨f, 0, none⟩ = false := blk_frozen bx_.out 0
            go_upto_region 24 with (fail)
            clear kP kF bx_
            generalize w6.setCell ⟨f, 0, none⟩ _ = w7 at G6 ⊢
            have kO : w7.cell? ⟨f, 1, none⟩ = some vO := blk_cell G6.out.box 1
            go_step
            iterate 18 go_step
            clear kO
            have N_ := Lib.hid (blk_new w7 (.cells #[.int .i64 0] 29))
            have G_ := Lib.hid (G6.out.alloc (.cells #[.int .i64 0] 29))
            clear G6
            generalize w7.alloc _ = w8 at N_ G_ ⊢
            generalize w7.heap.size = z_w8 at N_ ⊢
            refine wpList_append_own w8 rfl (.tmp 127) (.tmp 128) 30 rfl w.heap.size 29 t29 (.int .i64 0) 1 8 Try.underlying30 t291 t292 t293 t294 rfl (by decide) vO O.length (nums .i64 O) rfl G_.out.rowO ⟨z_w8, 0, none⟩ 1 1 [.int .i64 0] rfl rfl ?_ ?_ ?_ ?_ (below_size G_.out.bel) ?_
            · intro j u hj
              match j, hj with
              | 0, hj => exact ((blk_cell N_.out 0).trans hj)
            · intro u hu
              simp only [List.mem_cons, List.not_mem_nil, or_false] at hu
              subst hu
              rfl
            · have := hLO.out; simp only [maxLen]; omega
            · have := hLO.out; omega
            intro vO' w9 hown hgr _
            obtain ⟨gq_, cq_, rfl⟩ := own_succ hown
            have G9 := Lib.hid (G_.out.app_O hown hgr)
            have bx_ := Lib.hid (kept_block hgr G_.out.box (own_ne G_.out.rowO G_.out.box (by decide)))
            clear G_ N_ hown hgr
            have kP : w9.cell? ⟨f, 1, none⟩ = some vO := blk_cell bx_.out 1
            have kF : w9.frozen? ⟨f, 1, none⟩ = false := blk_frozen bx_.out 1
            have hT3 : (T ++ [x]).length ≤ i + 1 + 1 := by have := HTI.out; rw [List.length_append, List.length_singleton]; omega
            have hT4 : 1 ≤ (T ++ [x]).length := by rw [List.length_append, List.length_singleton]; omega
            go_wp2_with fail
            clear kP kF bx_
            generalize w9.setCell ⟨f, 1, none⟩ _ = w10 at G9 ⊢
            go_meet
            exact ⟨T ++ [x], P ++ [(a : Int)], O ++ [0], _, _, hT3, hT4, G9⟩
          · go_upto_region 22 with (fail)
            go_step
            iterate 17 go_step
            (with_reducible refine (child_any (some ⟨ta, 0, none⟩) wr).mono ?_)
            rintro e w2 ⟨rfl, hw2⟩
            have G2 : Hid (G w w2 f (.slice (some ⟨g3, 0, none⟩) T.length c3) vP vO (T ++ [wr.heap.size]) (P ++ [(a : Int)]) (O ++ [0]) T P O) := Lib.hid (by
              have := ST.out.push (a : Int) (by omega) (by omega)
              rw [show ptr T (a : Int) = some ⟨ta, 0, none⟩ by unfold ptr; rw [if_neg (by omega), Int.toNat_natCast, HTA.out]] at this
              rw [← hw2]
              exact this)
            clear hw2 r0 r1 r2 hg3 kA
            dsimp only
            go_step
            iterate 3 go_step
            obtain ⟨x, hx⟩ : ∃ x, wr.heap.size = x := ⟨_, rfl⟩
            rw [hx] at G2 ⊢
            clear hx
            have N_ := Lib.hid (blk_new w2 (.cells #[.pointer (some ⟨x, 0, none⟩)] 24))
            have G_ := Lib.hid (G2.out.alloc (.cells #[.pointer (some ⟨x, 0, none⟩)] 24))
            clear G2
            generalize w2.alloc _ = w3 at N_ G_ ⊢
            generalize w2.heap.size = z_w3 at N_ ⊢
            refine wpList_append_own w3 rfl (.tmp 105) (.tmp 111) 26 rfl w.heap.size 24 t24 (.pointer none) 1 8 Try.underlying26 t241 t242 t243 t244 rfl (by decide) (.slice (some ⟨g3, 0, none⟩) T.length c3) T.length (tptrs T) rfl G_.out.all ⟨z_w3, 0, none⟩ 1 1 [.pointer (some ⟨x, 0, none⟩)] rfl rfl ?_ ?_ ?_ ?_ (below_size G_.out.bel) ?_
            · intro j u hj
              match j, hj with
              | 0, hj => exact ((blk_cell N_.out 0).trans hj)
            · intro u hu
              simp only [List.mem_cons, List.not_mem_nil, or_false] at hu
              subst hu
              rfl
            · have := HT2.out; simp only [maxLen]; omega
            · have := HT2.out; omega
            intro v4 w4 hown hgr _
            obtain ⟨gq_, cq_, rfl⟩ := own_succ hown
            have G4 := Lib.hid (G_.out.app_all hown hgr)
            clear G_ N_ hown hgr
            have kP : w4.cell? ⟨f, 0, none⟩ = some vP := blk_cell G4.out.box 0
            go_upto_region 23 with (fail)
            go_step
            iterate 21 go_step
            clear kP
            have N_ := Lib.hid (blk_new w4 (.cells #[.int .i64 (a : Int)] 3))
            have G_ := Lib.hid (G4.out.alloc (.cells #[.int .i64 (a : Int)] 3))
            clear G4
            generalize w4.alloc _ = w5 at N_ G_ ⊢
            generalize w4.heap.size = z_w5 at N_ ⊢
            refine wpList_append_own w5 rfl (.tmp 117) (.tmp 119) 28 rfl w.heap.size 3 t3 (.int .i64 0) 1 8 Try.underlying28 t31 t32 t33 t34 rfl (by decide) vP P.length (nums .i64 P) rfl G_.out.rowP ⟨z_w5, 0, none⟩ 1 1 [.int .i64 (a : Int)] rfl rfl ?_ ?_ ?_ ?_ (below_size G_.out.bel) ?_
            · intro j u hj
              match j, hj with
              | 0, hj => exact ((blk_cell N_.out 0).trans hj)
            · intro u hu
              simp only [List.mem_cons, List.not_mem_nil, or_false] at hu
              subst hu
              rfl
            · have := hLP.out; simp only [maxLen]; omega
            · have := hLP.out; omega
            intro vP' w6 hown hgr _
            obtain ⟨gq_, cq_, rfl⟩ := own_succ hown
            have G6 := Lib.hid (G_.out.app_P hown hgr)
            have bx_ := Lib.hid (kept_block hgr G_.out.box (own_ne G_.out.rowP G_.out.box (by decide)))
            clear G_ N_ hown hgr
            have kP : w6.cell? ⟨f, 0, none⟩ = some vP := blk_cell bx_.out 0
            have kF : w6.frozen? ⟨f, 0, none⟩ = false := blk_frozen bx_.out 0
            go_upto_region 24 with (fail)
            clear kP kF bx_
            generalize w6.setCell ⟨f, 0, none⟩ _ = w7 at G6 ⊢
            have kO : w7.cell? ⟨f, 1, none⟩ = some vO := blk_cell G6.out.box 1
            go_step
            iterate 18 go_step
            clear kO
            have N_ := Lib.hid (blk_new w7 (.cells #[.int .i64 0] 29))
            have G_ := Lib.hid (G6.out.alloc (.cells #[.int .i64 0] 29))
            clear G6
            generalize w7.alloc _ = w8 at N_ G_ ⊢
            generalize w7.heap.size = z_w8 at N_ ⊢
            refine wpList_append_own w8 rfl (.tmp 127) (.tmp 128) 30 rfl w.heap.size 29 t29 (.int .i64 0) 1 8 Try.underlying30 t291 t292 t293 t294 rfl (by decide) vO O.length (nums .i64 O) rfl G_.out.rowO ⟨z_w8, 0, none⟩ 1 1 [.int .i64 0] rfl rfl ?_ ?_ ?_ ?_ (below_size G_.out.bel) ?_
            · intro j u hj
              match j, hj with
              | 0, hj => exact ((blk_cell N_.out 0).trans hj)
            · intro u hu
              simp only [List.mem_cons, List.not_mem_nil, or_false] at hu
              subst hu
              rfl
            · have := hLO.out; simp only [maxLen]; omega
            · have := hLO.out; omega
            intro vO' w9 hown hgr _
            obtain ⟨gq_, cq_, rfl⟩ := own_succ hown
            have G9 := Lib.hid (G_.out.app_O hown hgr)
            have bx_ := Lib.hid (kept_block hgr G_.out.box (own_ne G_.out.rowO G_.out.box (by decide)))
            clear G_ N_ hown hgr
            have kP : w9.cell? ⟨f, 1, none⟩ = some vO := blk_cell bx_.out 1
            have kF : w9.frozen? ⟨f, 1, none⟩ = false := blk_frozen bx_.out 1
            have hT3 : (T ++ [x]).length ≤ i + 1 + 1 := by have := HTI.out; rw [List.length_append, List.length_singleton]; omega
            have hT4 : 1 ≤ (T ++ [x]).length := by rw [List.length_append, List.length_singleton]; omega
            go_wp2_with fail
            clear kP kF bx_
            generalize w9.setCell ⟨f, 1, none⟩ _ = w10 at G9 ⊢
            go_meet
            exact ⟨T ++ [x], P ++ [(a : Int)], O ++ [0], _, _, hT3, hT4, G9⟩
          · obtain ⟨gO, cO, hvO, hcO⟩ := own_cells ST.out.rowO (by rw [ST.out.tok.lenO]; exact hT1)
            subst hvO
            have haO : (a : Int) < (O.length : Int) := by rw [ST.out.tok.lenO]; exact haI
            have haO' : a < O.length := by omega
            have kO : wr.cell? ⟨f, 1, none⟩ = some (.slice (some ⟨gO, 0, none⟩) O.length cO) := blk_cell ST.out.box 1
            have kOa : wr.cell? ⟨gO, a, none⟩ = some (.int .i64 (O.getD a 0)) := hcO a _ (by rw [nums, List.getElem?_map, List.getElem?_eq_getElem haO', List.getD_eq_getElem?_getD, List.getElem?_eq_getElem haO']; rfl)
            have hTK := ST.out.tok.cell a ha
            rw [HTA.out] at hTK
            obtain ⟨o, ho⟩ : ∃ o, O.getD a 0 = o := ⟨_, rfl⟩
            rw [ho] at kOa hTK
            have HTK := Lib.hid hTK
            have HTI2 : T.length ≤ i + 1 + 1 := by have := HTI.out; omega
            clear hcO haO' ho hTK
            by_cases h1 : o = 0
            · subst h1
              by_cases h2 : x2 = 0
              · subst h2
                go_wp2_with (go_at_call 7; (with_reducible refine (call_no ta _ 0 0 _ (.inl rfl) HTK.out).mono ?_); rintro e w' ⟨rfl, m, rfl⟩)
                go_meet
                exact ⟨T, P, O, _, _, HTI2, hT1, Lib.hid (G_drewN ST.out m)⟩
              · have e2 : (x2 == 0) = false := by simpa using h2
                have e3 : (x2 != 0) = true := by simpa using h2
                go_upto_region 12 with (fail)
                go_step
                iterate 17 go_step
                (with_reducible refine (call_yes ta _ x2 _ h2 HTK.out).mono ?_)
                rintro e w2 ⟨rfl, ht2, hg2⟩
                have G2 := Lib.hid (ST.out.call a ha x2 (by rw [HTA.out]; exact ht2) (by rw [HTA.out]; exact hg2))
                clear kO kOa r0 r1 r2 hg3 kA ht2 hg2 HTK
                have kO : w2.cell? ⟨f, 1, none⟩ = some (.slice (some ⟨gO, 0, none⟩) O.length cO) := blk_cell G2.out.box 1
                have kF : w2.frozen? ⟨gO, a, none⟩ = false := G2.out.rowO.frozenAt a
                have kV : w2.cell? ⟨gO, a, none⟩ = some (.int .i64 (O.getD a 0)) := by
                  have hq : a < O.length := by omega
                  rw [G2.out.rowO.cellAt a (by omega), nums, List.getElem?_map, List.getElem?_eq_getElem hq, List.getD_eq_getElem?_getD, List.getElem?_eq_getElem hq]
                  rfl
                have G3 := Lib.hid (G2.out.set_O a x2)
                dsimp only
                go_wp2_with fail
                clear kO kF kV G2
                generalize w2.setCell ⟨gO, a, none⟩ _ = w3 at G3 ⊢
                go_meet
                exact ⟨T, P, O.set a x2, _, _, HTI2, hT1, G3⟩
            · have e1 : (o == 0) = false := by simpa using h1
              go_wp2_with (go_at_call 7; (with_reducible refine (call_no ta _ o x2 _ (.inr h1) HTK.out).mono ?_); rintro e w' ⟨rfl, m, rfl⟩)
              go_meet
              exact ⟨T, P, O, _, _, HTI2, hT1, Lib.hid (G_drewN ST.out m)⟩
        case rest =>
          clear ST r0 r1 r2 hg3
          have HTI' : Hid (i < n ∧ n ≤ 60) := Lib.hid ⟨h, by omega⟩
          obtain ⟨T', P', O', vP', vO', hT3, hT4, ST⟩ := hcut
          go_upto_region 25 with (fail)
          obtain ⟨g3', c3', hv3', hc3⟩ := own_cells ST.out.all hT4
          obtain ⟨gp, cp, hvp, hcp⟩ := own_cells ST.out.rowP (by rw [ST.out.tok.lenP]; exact hT4)
          obtain ⟨go, co, hvo, hco⟩ := own_cells ST.out.rowO (by rw [ST.out.tok.lenO]; exact hT4)
          subst hv3' hvp hvo
          have hN : T'.length ≤ 100 := by have := HTI'.out; omega
          have RW := Lib.hid (fun (k : Int) (h0 : -1 ≤ k) (h1 : k < T'.length) => refreason_walk P' O' T'.length f gp go cp co wc k (by omega) h0 h1 (by have := ST.out.box; rw [ST.out.tok.lenP, ST.out.tok.lenO] at this; exact this) (fun j hj => hcp j _ (by rw [nums, List.getElem?_map, List.getElem?_eq_getElem (by rw [ST.out.tok.lenP]; exact hj), List.getD_eq_getElem?_getD, List.getElem?_eq_getElem (by rw [ST.out.tok.lenP]; exact hj)]; rfl)) (fun j hj => hco j _ (by rw [nums, List.getElem?_map, List.getElem?_eq_getElem (by rw [ST.out.tok.lenO]; exact hj), List.getD_eq_getElem?_getD, List.getElem?_eq_getElem (by rw [ST.out.tok.lenO]; exact hj)]; rfl)) ST.out.tok.up)
          have C3 := Lib.hid (fun (k : Nat) (hk : k < T'.length) => hc3 k (.pointer (some ⟨T'.getD k 0, 0, none⟩)) (by rw [tptrs, List.getElem?_map, List.getElem?_eq_getElem hk, List.getD_eq_getElem?_getD, List.getElem?_eq_getElem hk]; rfl))
          clear hc3 hcp hco
          go_wp2_with fail
          go_loopw [9] (fun v9 wr => ∃ k : Nat, k ≤ T'.length ∧ v9 = .int .i64 k ∧ wr = wc) (fun v9 _ => 1000 - (intOf v9).toNat)
          case atStart => exact ⟨0, by omega, rfl, rfl⟩
          case round =>
            obtain ⟨k, hk, rfl, rfl⟩ := hrel
            by_cases hkn : k < T'.length
            · have hklt : (k : Int) < (T'.length : Int) := by omega
              have hk0 : (0 : Int) ≤ (k : Int) := by omega
              have c3k := C3.out k hkn
              have ch := ST.out.tok.chain T'.length (k : Int) (by omega) hklt hklt
              rw [show ptr T' (k : Int) = some ⟨T'.getD k 0, 0, none⟩ by unfold ptr; rw [if_neg (by omega)]; rfl] at ch
              have rw_ := RW.out (k : Int) (by omega) hklt
              obtain ⟨R, hR⟩ : ∃ R, firstR (CH P' O' T'.length (k : Int)) = R := ⟨_, rfl⟩
              rw [hR] at rw_
              have R1 := Lib.hid (reason_eq ch hR)
              have R2 := Lib.hid (off_eq (b := (R != 0)) ch (by rw [hR]))
              have R0 := Lib.hid rw_
              generalize T'.getD k 0 = bk at c3k R1 R2
              clear rw_ hR ch
              go_wp2_with (first
                | (go_at_call 8; (with_reducible refine R0.out.mono ?_); rintro e w' ⟨rfl, rfl⟩)
                | (go_at_call 9; (with_reducible refine R1.out.mono ?_); rintro e w' ⟨rfl, rfl⟩)
                | (go_at_call 10; (with_reducible refine R2.out.mono ?_); rintro e w' ⟨rfl, rfl⟩))
              go_roundw
              case rel => exact ⟨k + 1, by omega, by go_num, by first | rfl | trivial⟩
              case measure => have := HTI'.out; simp [intOf]; omega
            · have hklt : ¬ (k : Int) < (T'.length : Int) := by omega
              have hin := HTI'.out
              go_wp2_with fail
              exact ⟨⟨i + 1, T', P', O', _, _, by omega, hT3, hT4, by go_num, ST⟩, by simp [intOf]; omega⟩
      · have hlt : ¬ (i : Int) < (n : Int) := by omega
        have hN : T.length ≤ 100 := by omega
        obtain ⟨g3, c3, hv3, hc3⟩ := own_cells ST.out.all hT1
        obtain ⟨gp, cp, hvp, hcp⟩ := own_cells ST.out.rowP (by rw [ST.out.tok.lenP]; exact hT1)
        obtain ⟨go, co, hvo, hco⟩ := own_cells ST.out.rowO (by rw [ST.out.tok.lenO]; exact hT1)
        subst hv3 hvp hvo
        have bx := ST.out.box
        rw [ST.out.tok.lenP, ST.out.tok.lenO] at bx
        have RW : Hid (∀ (m : Nat) (k : Int), 0 ≤ k → k < T.length → Calls Try.prog 12 #[.pointer (some ⟨f, 0, none⟩), .int .i64 k] (wr.drewN m) fun e w' => e = .returned (.int .i64 (((CH P O T.length k).length - 1 : Nat) : Int)) ∧ w' = wr.drewN m) := Lib.hid (fun m k h0 h1 => refdepth_walk P O T.length f gp go cp co (wr.drewN m) k (by omega) h0 h1 bx (fun j hj => hcp j _ (by rw [nums, List.getElem?_map, List.getElem?_eq_getElem (by rw [ST.out.tok.lenP]; exact hj), List.getD_eq_getElem?_getD, List.getElem?_eq_getElem (by rw [ST.out.tok.lenP]; exact hj)]; rfl)) ST.out.tok.up)
        have C3 := Lib.hid (fun (k : Nat) (hk : k < T.length) => hc3 k (.pointer (some ⟨T.getD k 0, 0, none⟩)) (by rw [tptrs, List.getElem?_map, List.getElem?_eq_getElem hk, List.getD_eq_getElem?_getD, List.getElem?_eq_getElem hk]; rfl))
        have HN := Lib.hid hN
        clear hc3 hcp hco bx hTi hN
        generalize wr = ws at ST RW C3 ⊢
        go_upto_region 31 with (fail)
        go_wp2_with fail
        go_loopw [11] (fun v11 wx => ∃ k m : Nat, k ≤ T.length ∧ v11 = .int .i64 k ∧ wx = ws.drewN m) (fun v11 _ => 1000 - (intOf v11).toNat)
        case atStart => exact ⟨0, 0, by omega, rfl, rfl⟩
        case round =>
          obtain ⟨k, m, hk, rfl, rfl⟩ := hrel
          by_cases hkn : k < T.length
          · have hklt : (k : Int) < (T.length : Int) := by omega
            have hk0 : (0 : Int) ≤ (k : Int) := by omega
            have c3k : (ws.drewN m).cell? ⟨g3, k, none⟩ = some (.pointer (some ⟨T.getD k 0, 0, none⟩)) := C3.out k hkn
            have ch := (G_drewN ST.out m).tok.chain T.length (k : Int) (by omega) hklt hklt
            rw [show ptr T (k : Int) = some ⟨T.getD k 0, 0, none⟩ by unfold ptr; rw [if_neg (by omega)]; rfl] at ch
            have hle : ∀ (q : Nat) (a : Int), (CH P O q a).length ≤ q := fun q => by
              induction q with
              | zero => intro a; exact Nat.le_refl _
              | succ q ih => intro a; rw [CH]; split; exact Nat.zero_le _; rw [List.length_cons]; exact Nat.succ_le_succ (ih _)
            have h1000 : (CH P O T.length (k : Int)).length ≤ 1000 := by have := hle T.length (k : Int); have := HN.out; omega
            obtain ⟨D, hD⟩ : ∃ D : Int, (((CH P O T.length (k : Int)).length - 1 : Nat) : Int) = D := ⟨_, rfl⟩
            have R1 := Lib.hid (depth_eq ch h1000 hD)
            have R0 : Hid (∀ m, Calls Try.prog 12 #[.pointer (some ⟨f, 0, none⟩), .int .i64 (k : Int)] (ws.drewN m) fun e w' => e = .returned (.int .i64 D) ∧ w' = ws.drewN m) := Lib.hid (fun m => by have := RW.out m (k : Int) hk0 hklt; rw [hD] at this; exact this)
            generalize T.getD k 0 = bk at c3k R1
            clear ch hD h1000 hle
            go_wp2_with (first
              | (go_at_call 11; (with_reducible refine R1.out.mono ?_); rintro e w' ⟨rfl, m2, rfl⟩; rw [World.drewN_drewN])
              | (go_at_call 12; (with_reducible refine (R0.out _).mono ?_); rintro e w' ⟨rfl, rfl⟩))
            go_roundw
            case rel => exact ⟨k + 1, _, hkn, next_val k _ hkn HN.out, rfl⟩
            case measure => exact next_meas k _ hkn HN.out
          · have hklt : ¬ (k : Int) < (T.length : Int) := by omega
            have FB := (G_drewN ST.out m).bel
            go_wp2_with (go_at_call 4; (with_reducible refine (awake_any _).mono ?_); rintro e w2 ⟨rfl, hb⟩)
            go_ret
            exact ⟨rfl, below_step FB hb⟩
end Go.Proofs.Ytgbdkhdilnogoaa.Hand
