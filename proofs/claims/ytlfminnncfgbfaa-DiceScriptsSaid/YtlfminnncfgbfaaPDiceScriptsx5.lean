/- Written for this claim by a program of the session (wip/tools/inject.py) over the kit's print; what is proved by hand is imported. -/
import Derived.Test.YtlfminnncfgbfaaPDiceScriptsx0
namespace Go.Proofs.Ytlfminnncfgbfaa.PDiceScripts
open Go.Proofs.Ytlfminnncfgbfaa.Hand
open Go.RowKit Go.Proofs.YtlfminnncfgbfaaW.PrintWords Go.Proofs.YtlfminnncfgbfaaW.PrintLast Go.Proofs.YtlfminnncfgbfaaW.PrintMore
attribute [local go_sem] max2_int min2_int max_two min_two max_three min_three max_four min_four   -- for this text's walks alone
set_option linter.unusedVariables false
set_option linter.unusedSimpArgs false

/-- A state of type 32 at block g of W; what its slices lead to came in by w0. -/
def IsS32 (w0 W : World) (g : Nat) (f0 : Int) : Prop := W.heap[g]? = some (.cells #[.int .u64 f0] 32 (0, 0)) ∧ w0.heap.size ≤ g
theorem IsS32.grown {w0 W : World} {g : Nat} {f0 : Int} {W1 : World} {row : Option Nat} (h : IsS32 w0 W g f0) (hw : W.grownBy W1 row) (hne : some g ≠ row) : IsS32 w0 W1 g f0 := by
  obtain ⟨hb, hg⟩ := h
  exact ⟨blk_grown hb hw hne, hg⟩
theorem IsS32.own_neN {w0 W : World} {g : Nat} {f0 : Int} {α : Type} {d : Kd α} {e : Nat} {base : Nat} {ok : Nat → Prop} {v : Value} {xs : List α} (h : IsS32 w0 W g f0) (ho : Kd.N d e W base ok v xs) (ht : e ≠ 32) : some g ≠ v.ownBlock := by
  obtain ⟨hb, hg⟩ := h
  exact Kd.N_ne ho hb ht
theorem IsS32.fresh {w0 W : World} {g : Nat} {f0 : Int} (h : IsS32 w0 W g f0) : ∀ k, W.heap.size ≤ k → k ≠ g := by
  obtain ⟨hb, hg⟩ := h
  exact Kd.freshB hb
theorem IsS32.kept {w0 W : World} {g : Nat} {f0 : Int} {W1 : World} {S : Nat → Prop} (h : IsS32 w0 W g f0) (hk : Kept W W1 S) (hne : ¬ S g) : IsS32 w0 W1 g f0 := by
  obtain ⟨hb, hg⟩ := h
  exact ⟨blk_kept hb hk hne, hg⟩
theorem IsS32.below {w0 W : World} {g : Nat} {f0 : Int} {W1 : World} (h : IsS32 w0 W g f0) (hw : Below W.heap.size W W1) : IsS32 w0 W1 g f0 := h.grown (grown_of_below hw none) (by simp)
theorem IsS32.alloc {w0 W : World} {g : Nat} {f0 : Int} (h : IsS32 w0 W g f0) (o : Obj) : IsS32 w0 (W.alloc o) g f0 := h.below (below_alloc (Below.refl _ _) o)
theorem IsS32.drewN {w0 W : World} {g : Nat} {f0 : Int} (h : IsS32 w0 W g f0) (m : Nat) : IsS32 w0 (W.drewN m) g f0 := h
theorem IsS32.drew {w0 W : World} {g : Nat} {f0 : Int} (h : IsS32 w0 W g f0) : IsS32 w0 W.drew g f0 := h
theorem IsS32.at_ {w0 W : World} {g : Nat} {f0 : Int} {w' : World} {m : Nat} (hq : W.drewN m = w') (h : IsS32 w0 W g f0) : IsS32 w0 w' g f0 := by subst hq; exact IsS32.drewN h m
theorem IsS32.apart {w0 W : World} {g : Nat} {f0 : Int} {α : Type} {d : Kd α} {e : Nat} {base : Nat} {ok : Nat → Prop} {v : Value} {xs : List α} (h : IsS32 w0 W g f0) (ho : d.R e W base ok v xs) (ht : ∀ q, q ∈ e :: d.E → q ≠ 32) : d.R e W base (fun k => ok k ∧ k ≠ g) v xs := by
  obtain ⟨hb, hg⟩ := h
  exact Kd.R_types ho hb ht
theorem IsS32.own_ne {w0 W : World} {g : Nat} {f0 : Int} {α : Type} {d : Kd α} {e : Nat} {base : Nat} {ok : Nat → Prop} {v : Value} {xs : List α} (h : IsS32 w0 W g f0) (ho : d.R e W base ok v xs) (ht : e ≠ 32) : some g ≠ v.ownBlock := by
  obtain ⟨hb, hg⟩ := h
  exact Kd.R_ne ho hb ht
theorem IsS32.apartQ {w0 W : World} {g : Nat} {f0 : Int} {α : Type} {d : Kd α} {e : Nat} {base : Nat} {ok : Nat → Prop} {v : Value} {xs : List α} (h : IsS32 w0 W g f0) (ho : d.Q e W base ok v xs) (ht : ∀ q, q ∈ e :: d.E → q ≠ 32) : d.Q e W base (fun k => ok k ∧ k ≠ g) v xs := by
  obtain ⟨hb, hg⟩ := h
  exact Kd.Q_types ho hb ht
theorem IsS32.own_neQ {w0 W : World} {g : Nat} {f0 : Int} {α : Type} {d : Kd α} {e : Nat} {base : Nat} {ok : Nat → Prop} {v : Value} {xs : List α} (h : IsS32 w0 W g f0) (ho : d.Q e W base ok v xs) (ht : e ≠ 32) : some g ≠ v.ownBlock := by
  obtain ⟨hb, hg⟩ := h
  exact Kd.Q_ne ho hb ht
theorem IsS32.apartS {w0 W : World} {g : Nat} {f0 : Int} {α : Type} {d : Kd α} {e : Nat} {base : Nat} {ok : Nat → Prop} {v : Value} {xs : List α} (h : IsS32 w0 W g f0) (ho : d.S e W base ok v xs) (ht : ∀ q, q ∈ e :: d.E → q ≠ 32) : d.S e W base (fun k => ok k ∧ k ≠ g) v xs := by
  obtain ⟨hb, hg⟩ := h
  exact Kd.S_types ho hb ht
theorem IsS32.own_neS {w0 W : World} {g : Nat} {f0 : Int} {α : Type} {d : Kd α} {e : Nat} {base : Nat} {ok : Nat → Prop} {v : Value} {xs : List α} (h : IsS32 w0 W g f0) (ho : d.S e W base ok v xs) (ht : e ≠ 32) : some g ≠ v.ownBlock := by
  obtain ⟨hb, hg⟩ := h
  exact Kd.S_ne ho hb ht
theorem IsS32.lt {w0 W : World} {g : Nat} {f0 : Int} (h : IsS32 w0 W g f0) : g < W.heap.size := by
  obtain ⟨hb, hg⟩ := h
  exact blk_lt hb
theorem IsS32.ge {w0 W : World} {g : Nat} {f0 : Int} (h : IsS32 w0 W g f0) : w0.heap.size ≤ g := by
  obtain ⟨hb, hg⟩ := h
  exact hg
theorem IsS32.ne_blk {w0 W : World} {g : Nat} {f0 : Int} {a : Nat} {cs : Array Value} {t : TypeId} {fr : Nat × Nat} (h : IsS32 w0 W g f0) (hb2 : W.heap[a]? = some (.cells cs t fr)) (ht : t ≠ 32) : g ≠ a := by
  obtain ⟨hb, hg⟩ := h
  rintro rfl
  rw [hb] at hb2
  injection hb2 with hb2
  injection hb2 with _ ht2
  exact ht ht2.symm
theorem IsS32.far {w0 W : World} {g : Nat} {f0 : Int} {p : Addr} (h : IsS32 w0 W g f0) (hne : g ≠ p.block) (u : Value) : IsS32 w0 (W.setCell p u) g f0 := by
  obtain ⟨hb, hg⟩ := h
  exact ⟨blk_far hb hne u, hg⟩
theorem cellS32_0 {W : World} {g : Nat} {f0 : Int} (h : W.heap[g]? = some (.cells #[.int .u64 f0] 32 (0, 0))) : W.cell? ⟨g, 0, none⟩ = some (.int .u64 f0) := (blk_cell h 0).trans rfl
theorem IsS32.set_0 {w0 W : World} {g : Nat} {f0 : Int} (h : IsS32 w0 W g f0) (x : Int) : IsS32 w0 (W.setCell ⟨g, 0, none⟩ (.int .u64 x)) g x := by
  obtain ⟨hb, hg⟩ := h
  exact ⟨by simpa using blk_set hb 0 (.int .u64 x), hg⟩
theorem IsS32.new (w0 W : World) (f0 : Int) (hB : Below w0.heap.size w0 W) : IsS32 w0 (W.alloc (.cells #[.int .u64 f0] 32)) W.heap.size f0 := ⟨by simpa using heap_alloc_new W _, hB.size⟩

/-! ### muleteerref40_Dice_Throw: function 16 -/
def muleteerref40_Dice_Throw.f (s0_0 : Int) : Option (Int × Int) := some (Go.bits .xor .u64 (IntKind.u64.wrap ((Go.bits .xor .u64 (IntKind.u64.wrap ((Go.bits .xor .u64 (IntKind.u64.wrap (s0_0 + 11400714819323198485)) (IntKind.u64.wrap (Int.tdiv (IntKind.u64.wrap (s0_0 + 11400714819323198485)) 1073741824))) * 13787848793156543929)) (IntKind.u64.wrap (Int.tdiv (IntKind.u64.wrap ((Go.bits .xor .u64 (IntKind.u64.wrap (s0_0 + 11400714819323198485)) (IntKind.u64.wrap (Int.tdiv (IntKind.u64.wrap (s0_0 + 11400714819323198485)) 1073741824))) * 13787848793156543929)) 134217728))) * 10723151780598845931)) (IntKind.u64.wrap (Int.tdiv (IntKind.u64.wrap ((Go.bits .xor .u64 (IntKind.u64.wrap ((Go.bits .xor .u64 (IntKind.u64.wrap (s0_0 + 11400714819323198485)) (IntKind.u64.wrap (Int.tdiv (IntKind.u64.wrap (s0_0 + 11400714819323198485)) 1073741824))) * 13787848793156543929)) (IntKind.u64.wrap (Int.tdiv (IntKind.u64.wrap ((Go.bits .xor .u64 (IntKind.u64.wrap (s0_0 + 11400714819323198485)) (IntKind.u64.wrap (Int.tdiv (IntKind.u64.wrap (s0_0 + 11400714819323198485)) 1073741824))) * 13787848793156543929)) 134217728))) * 10723151780598845931)) 2147483648)), IntKind.u64.wrap (s0_0 + 11400714819323198485))
set_option maxHeartbeats 8000000 in
set_option maxRecDepth 100000 in
theorem muleteerref40_Dice_Throw.calls (g : Nat) (s0_0 : Int) (r1 : Int) (r2 : Int) (w0 w : World) (hI : IsS32 w0 w g s0_0) (hB : Below w0.heap.size w0 w) (h : muleteerref40_Dice_Throw.f s0_0 = some (r1, r2)) :
    Calls Try.prog 16 #[.pointer (some ⟨g, 0, none⟩)] w fun e w' => e = .returned (.int .u64 r1) ∧ IsS32 w0 w' g r2 ∧ Below w0.heap.size w0 w' ∧ KeepBut w w' g none := by
  have HI0 := Aside0.mk hI
  have HK := Aside0.mk (KeepBut.refl w g none)
  have HL := Aside0.mk hB.size
  clear hI
  have HW0 := Aside0.mk hB.size
  have HB := Aside0.mk hB
  clear hB
  have H : (some (Go.bits .xor .u64 (IntKind.u64.wrap ((Go.bits .xor .u64 (IntKind.u64.wrap ((Go.bits .xor .u64 (IntKind.u64.wrap (s0_0 + 11400714819323198485)) (IntKind.u64.wrap (Int.tdiv (IntKind.u64.wrap (s0_0 + 11400714819323198485)) 1073741824))) * 13787848793156543929)) (IntKind.u64.wrap (Int.tdiv (IntKind.u64.wrap ((Go.bits .xor .u64 (IntKind.u64.wrap (s0_0 + 11400714819323198485)) (IntKind.u64.wrap (Int.tdiv (IntKind.u64.wrap (s0_0 + 11400714819323198485)) 1073741824))) * 13787848793156543929)) 134217728))) * 10723151780598845931)) (IntKind.u64.wrap (Int.tdiv (IntKind.u64.wrap ((Go.bits .xor .u64 (IntKind.u64.wrap ((Go.bits .xor .u64 (IntKind.u64.wrap (s0_0 + 11400714819323198485)) (IntKind.u64.wrap (Int.tdiv (IntKind.u64.wrap (s0_0 + 11400714819323198485)) 1073741824))) * 13787848793156543929)) (IntKind.u64.wrap (Int.tdiv (IntKind.u64.wrap ((Go.bits .xor .u64 (IntKind.u64.wrap (s0_0 + 11400714819323198485)) (IntKind.u64.wrap (Int.tdiv (IntKind.u64.wrap (s0_0 + 11400714819323198485)) 1073741824))) * 13787848793156543929)) 134217728))) * 10723151780598845931)) 2147483648)), IntKind.u64.wrap (s0_0 + 11400714819323198485))) = some (r1, r2) := h
  clear h
  simp only [Option.some.injEq, Prod.mk.injEq] at H
  obtain ⟨rfl, rfl⟩ := H
  obtain ⟨HGz2, hgz2⟩ := HI0.out
  have hcz2_0 := cellS32_0 HGz2
  have hfz2_0 := blk_frozen HGz2 0
  clear HGz2 hgz2
  go_enter Try.func16, Try.ntmps16
  go_wp2
  go_ret
  exact ⟨by first | rfl | (simp [errW_none, errW_some] <;> rfl) | (simp [*, errW_none, errW_some] <;> rfl), by repeat (first | (with_reducible first | exact HI0.out | apply IsS32.alloc | apply IsS32.drewN | apply IsS32.drew | apply IsS32.set_0) | exact HI0.out), by repeat (first | (with_reducible first | exact HB.out | apply below_alloc | apply pw_below_drewN | apply below_drew1 | refine below_set ?_ (IsS32.ge HI0.out)) | exact HB.out), by repeat (first | (with_reducible first | exact HK.out | apply KeepBut.set_ | apply keep_drewN | apply keep_drew | apply keep_alloc) | exact HK.out)⟩

/-! ### muleteerref40_Dice_Below: function 22 -/
def muleteerref40_Dice_Below.f (s0_0 : Int) (a1 : Int) : Option (Int × Int) := if a1 < 1 then (some (0, s0_0)) else ((muleteerref40_Dice_Throw.f s0_0).bind fun bt146 => (if (IntKind.u64.wrap (a1)) = 0 then (none) else (some (wrap64 (Int.tmod bt146.1 (IntKind.u64.wrap (a1))), bt146.2))))
set_option maxHeartbeats 8000000 in
set_option maxRecDepth 100000 in
theorem muleteerref40_Dice_Below.calls (g : Nat) (s0_0 : Int) (a1 : Int) (r1 : Int) (r2 : Int) (w0 w : World) (hI : IsS32 w0 w g s0_0) (hB : Below w0.heap.size w0 w) (h : muleteerref40_Dice_Below.f s0_0 a1 = some (r1, r2)) :
    Calls Try.prog 22 #[.pointer (some ⟨g, 0, none⟩), .int .i64 a1] w fun e w' => e = .returned (.int .i64 r1) ∧ IsS32 w0 w' g r2 ∧ Below w0.heap.size w0 w' ∧ KeepBut w w' g none := by
  have HI0 := Aside0.mk hI
  have HK := Aside0.mk (KeepBut.refl w g none)
  have HL := Aside0.mk hB.size
  clear hI
  have HW0 := Aside0.mk hB.size
  have HB := Aside0.mk hB
  clear hB
  have H : (if a1 < 1 then (some (0, s0_0)) else ((muleteerref40_Dice_Throw.f s0_0).bind fun bt146 => (if (IntKind.u64.wrap (a1)) = 0 then (none) else (some (wrap64 (Int.tmod bt146.1 (IntKind.u64.wrap (a1))), bt146.2))))) = some (r1, r2) := h
  clear h
  by_cases c3 : a1 < 1
  · rw [if_pos c3] at H
    have c3b0 : decide (a1 < 1) = true := decide_eq_true c3
    clear c3
    simp only [Option.some.injEq, Prod.mk.injEq] at H
    obtain ⟨rfl, rfl⟩ := H
    go_enter Try.func22, Try.ntmps22
    go_wp2
    go_ret
    exact ⟨by first | rfl | (simp [errW_none, errW_some] <;> rfl) | (simp [*, errW_none, errW_some] <;> rfl), by repeat (first | (with_reducible first | exact HI0.out | apply IsS32.alloc | apply IsS32.drewN | apply IsS32.drew | apply IsS32.set_0) | exact HI0.out), by repeat (first | (with_reducible first | exact HB.out | apply below_alloc | apply pw_below_drewN | apply below_drew1 | refine below_set ?_ (IsS32.ge HI0.out)) | exact HB.out), by repeat (first | (with_reducible first | exact HK.out | apply KeepBut.set_ | apply keep_drewN | apply keep_drew | apply keep_alloc) | exact HK.out)⟩
  · rw [if_neg c3] at H
    have c3b0 : decide (a1 < 1) = false := decide_eq_false c3
    clear c3
    replace H := Option.bind_eq_some_iff.mp H
    obtain ⟨⟨t146, t147⟩, A40, H⟩ := H
    replace H : (if (IntKind.u64.wrap (a1)) = 0 then (none) else (some (wrap64 (Int.tmod t146 (IntKind.u64.wrap (a1))), t147))) = some (r1, r2) := H
    have A4 := Aside0.mk A40
    clear A40
    by_cases c5 : (IntKind.u64.wrap (a1)) = 0
    · rw [if_pos c5] at H
      exact absurd H (by simp)
    · rw [if_neg c5] at H
      have c5b0 : ((IntKind.u64.wrap (a1)) == 0) = false := beq_eq_false_iff_ne.mpr c5
      have c5b1 : ((IntKind.u64.wrap (a1)) != 0) = true := bne_iff_ne.mpr c5
      simp only [Option.some.injEq, Prod.mk.injEq] at H
      obtain ⟨rfl, rfl⟩ := H
      go_enter Try.func22, Try.ntmps22
      go_wp2_with (first | ((with_reducible refine gate_callee (f := 16) rfl ?_); refine goesL_ (some 8) rfl rfl Try.func16 (by kernel_rfl) rfl #[.pointer (some ⟨g, 0, none⟩)] rfl (by (try simp only [List.map_toArray, List.map_cons, List.map_nil]); first | done | rfl | (simp only [List.length_drop, List.length_take]; rfl)) ?_; (with_reducible refine (muleteerref40_Dice_Throw.calls g s0_0 t146 t147 w0 _ ?side1 ?side2 A4.out).mono ?_); (case side1 => repeat (first | (with_reducible first | exact HI0.out | apply IsS32.alloc | apply IsS32.drewN | apply IsS32.drew | apply IsS32.set_0) | exact HI0.out)); (case side2 => repeat (first | (with_reducible first | exact HB.out | apply below_alloc | apply pw_below_drewN | apply below_drew1 | refine below_set ?_ (IsS32.ge HI0.out)) | exact HB.out)); rintro e w6 ⟨rfl, hi, hb, hk⟩; refine ⟨_, rfl, ?_⟩; have n0_ := Aside0.mk (KeepBut.trans (by repeat (first | (with_reducible first | exact HK.out | apply KeepBut.set_ | apply keep_drewN | apply keep_drew | apply keep_alloc) | exact HK.out)) hk (.inl rfl)); have n1_ := Aside0.mk (hb); have n2_ := Aside0.mk (hi); clear HK; clear HB; clear HI0; have HK := n0_; have HB := n1_; have HI0 := n2_; clear n0_ n1_ n2_; (try clear hb); (try clear hb2); (try clear hk); (try clear hi)))
      go_ret
      exact ⟨by first | rfl | (simp [errW_none, errW_some] <;> rfl) | (simp [*, errW_none, errW_some] <;> rfl), by repeat (first | (with_reducible first | exact HI0.out | apply IsS32.alloc | apply IsS32.drewN | apply IsS32.drew | apply IsS32.set_0) | exact HI0.out), by repeat (first | (with_reducible first | exact HB.out | apply below_alloc | apply pw_below_drewN | apply below_drew1 | refine below_set ?_ (IsS32.ge HI0.out)) | exact HB.out), by repeat (first | (with_reducible first | exact HK.out | apply KeepBut.set_ | apply keep_drewN | apply keep_drew | apply keep_alloc) | exact HK.out)⟩

/-! ### muleteerref40_Dice_Config: function 10 -/
def muleteerref40_Dice_Config.l0 : Nat → Int → Int → Int → List Bool → Int → Int → Int → Int → Int → Int → Int → Int → Int → Int → Int → Option (List Bool × Int × Int × Int × Int × Int × Int × Int × Int × Int × Int × Int × Int)
  | 0, _, _, _, _, _, _, _, _, _, _, _, _, _, _, _ => none
  | k + 1, x4, x5, x1000, x150000, x150001, x150002, x150003, x150004, x150005, x150006, x150007, x150008, x150009, x150010, x150011 => if x5 < x4 then ((muleteerref40_Dice_Below.f x1000 3).bind fun bt152 => (if x150000.length < 140737488355328 then (muleteerref40_Dice_Config.l0 k x4 (wrap64 (x5 + 1)) bt152.2 (x150000 ++ [(bt152.1 == 0)]) x150001 x150002 x150003 x150004 x150005 x150006 x150007 x150008 x150009 x150010 x150011) else (none))) else ((muleteerref40_Dice_Below.f x1000 2).bind fun bt157 => ((muleteerref40_Dice_Below.f bt157.2 3).bind fun bt159 => ((muleteerref40_Dice_Below.f bt159.2 5).bind fun bt161 => ((muleteerref40_Dice_Below.f bt161.2 5).bind fun bt163 => ((muleteerref40_Dice_Below.f bt163.2 3).bind fun bt165 => ((muleteerref40_Dice_Below.f bt165.2 3).bind fun bt167 => ((muleteerref40_Dice_Below.f bt167.2 2).bind fun bt169 => ((muleteerref40_Dice_Below.f bt169.2 4).bind fun bt171 => ((muleteerref40_Dice_Below.f bt171.2 5).bind fun bt173 => ((muleteerref40_Dice_Below.f bt173.2 3).bind fun bt175 => ((muleteerref40_Dice_Below.f bt175.2 1000).bind fun bt177 => (some (x150000, wrap64 (1 + bt157.1), wrap64 (1 + bt159.1), wrap64 (1 + bt161.1), wrap64 (1 + bt163.1), wrap64 (1 + bt165.1), wrap64 (1 + bt167.1), wrap64 (1 + bt169.1), wrap64 (1 + bt171.1), wrap64 (1 + bt173.1), bt175.1, IntKind.u64.wrap (bt177.1), bt177.2)))))))))))))
def muleteerref40_Dice_Config.f (k : Nat) (s0_0 : Int) : Option (List Bool × Int × Int × Int × Int × Int × Int × Int × Int × Int × Int × Int × Int) := (muleteerref40_Dice_Below.f s0_0 3).bind fun bt150 => (muleteerref40_Dice_Config.l0 k (wrap64 (1 + bt150.1)) 0 bt150.2 ([] : List Bool) 0 0 0 0 0 0 0 0 0 0 0)
theorem muleteerref40_Dice_Config.mono_l : ∀ k, (∀ y0 y1 y2 y3 y4 y5 y6 y7 y8 y9 y10 y11 y12 y13 y14, LeO (muleteerref40_Dice_Config.l0 k y0 y1 y2 y3 y4 y5 y6 y7 y8 y9 y10 y11 y12 y13 y14) (muleteerref40_Dice_Config.l0 (k + 1) y0 y1 y2 y3 y4 y5 y6 y7 y8 y9 y10 y11 y12 y13 y14))
  | 0 => fun _ _ _ _ _ _ _ _ _ _ _ _ _ _ _ r h => by simp [muleteerref40_Dice_Config.l0] at h
  | k + 1 => by
    have ih0 := muleteerref40_Dice_Config.mono_l k
    · intro y0 y1 y2 y3 y4 y5 y6 y7 y8 y9 y10 y11 y12 y13 y14
      unfold muleteerref40_Dice_Config.l0
      repeat' first
      | (with_reducible exact ih0 _ _ _ _ _ _ _ _ _ _ _ _ _ _ _)
      | (with_reducible exact LeO.refl _)
      | (with_reducible exact LeO.none _)
      | (with_reducible refine LeO.ite ?_ ?_)
      | (with_reducible refine LeO.bind ?_ (fun _ => ?_))
      | exact ih0 _ _ _ _ _ _ _ _ _ _ _ _ _ _ _
      | exact LeO.none _
      | refine LeO.ite ?_ ?_
      | refine LeO.bind ?_ (fun _ => ?_)
theorem muleteerref40_Dice_Config.mono : ∀ a0 k, LeO (muleteerref40_Dice_Config.f k a0) (muleteerref40_Dice_Config.f (k + 1) a0) := by
  intro a0 k
  have ih0 := muleteerref40_Dice_Config.mono_l k
  unfold muleteerref40_Dice_Config.f
  repeat' first
      | (with_reducible exact ih0 _ _ _ _ _ _ _ _ _ _ _ _ _ _ _)
      | (with_reducible exact LeO.refl _)
      | (with_reducible exact LeO.none _)
      | (with_reducible refine LeO.ite ?_ ?_)
      | (with_reducible refine LeO.bind ?_ (fun _ => ?_))
      | exact ih0 _ _ _ _ _ _ _ _ _ _ _ _ _ _ _
      | exact LeO.none _
      | refine LeO.ite ?_ ?_
      | refine LeO.bind ?_ (fun _ => ?_)
def muleteerref40_Dice_Config.T6 : Bool × List (List Nat × List Nat) := (true, [([], []), ([0], [0]), ([], []), ([2], [2]), ([3], [3]), ([4], [4]), ([1, 5, 3], [1, 5]), ([0, 1, 2, 3, 4, 5, 6], []), ([7, 6, 6, 0, 1, 2, 3, 4, 5, 6], [6, 7])])
def muleteerref40_Dice_Config.B6 : List Nat := [0, 1, 0, 4, 12, 28, 63, 127, 255]
theorem muleteerref40_Dice_Config.tab6 : rtab .any (opsOf Try.f10 6) = muleteerref40_Dice_Config.T6 := by kernel_rfl
theorem muleteerref40_Dice_Config.bits6 : waitsOk muleteerref40_Dice_Config.T6.2 muleteerref40_Dice_Config.B6 = true := by kernel_rfl
set_option maxHeartbeats 8000000 in
set_option maxRecDepth 100000 in
theorem muleteerref40_Dice_Config.calls (k : Nat) (g : Nat) (s0_0 : Int) (r1 : List Bool) (r2 : Int) (r3 : Int) (r4 : Int) (r5 : Int) (r6 : Int) (r7 : Int) (r8 : Int) (r9 : Int) (r10 : Int) (r11 : Int) (r12 : Int) (r13 : Int) (w0 w : World) (hI : IsS32 w0 w g s0_0) (hB : Below w0.heap.size w0 w) (h : muleteerref40_Dice_Config.f k s0_0 = some (r1, r2, r3, r4, r5, r6, r7, r8, r9, r10, r11, r12, r13)) :
    Calls Try.prog 10 #[.pointer (some ⟨g, 0, none⟩)] w fun e w' => ∃ v0_ : Value, e = .returned (.agg #[v0_, .int .i64 r2, .int .i64 r3, .int .i64 r4, .int .i64 r5, .int .i64 r6, .int .i64 r7, .int .i64 r8, .int .i64 r9, .int .i64 r10, .int .i64 r11, .int .u64 r12]) ∧ Kd.R Kd.bool 4 w' w.heap.size (fun _ => True) v0_ r1 ∧ IsS32 w0 w' g r13 ∧ Below w0.heap.size w0 w' ∧ KeepBut w w' g none := by
  have hu25 := Try.underlying25
  have HI0 := Aside0.mk hI
  have HK := Aside0.mk (KeepBut.refl w g none)
  have HL := Aside0.mk hB.size
  clear hI
  have HW0 := Aside0.mk hB.size
  have HB := Aside0.mk hB
  clear hB
  have H : ((muleteerref40_Dice_Below.f s0_0 3).bind fun bt150 => (muleteerref40_Dice_Config.l0 k (wrap64 (1 + bt150.1)) 0 bt150.2 ([] : List Bool) 0 0 0 0 0 0 0 0 0 0 0)) = some (r1, r2, r3, r4, r5, r6, r7, r8, r9, r10, r11, r12, r13) := h
  clear h
  replace H := Option.bind_eq_some_iff.mp H
  obtain ⟨⟨t150, t151⟩, A20, H⟩ := H
  replace H : (muleteerref40_Dice_Config.l0 k (wrap64 (1 + t150)) 0 t151 ([] : List Bool) 0 0 0 0 0 0 0 0 0 0 0) = some (r1, r2, r3, r4, r5, r6, r7, r8, r9, r10, r11, r12, r13) := H
  have A2 := Aside0.mk A20
  clear A20
  have H' := Aside0.mk H
  clear H
  go_enter Try.func10, Try.ntmps10
  go_wp2_with (first | ((with_reducible refine gate_dst (N := 2) rfl ?_); refine box_event ?hg (N := 2) ?hd (cs := #[.slice none 0 0, .int .i64 0, .int .i64 0, .int .i64 0, .int .i64 0, .int .i64 0, .int .i64 0, .int .i64 0, .int .i64 0, .int .i64 0, .int .i64 0, .int .u64 0]) (t := 25) ?hr ?_; (case hd => rfl); (case hg => rfl); (case hr => first | (go_simp; done) | (go_simp; rfl)); intro gb148 hg w3 hbox hb; have n0_ := Aside0.mk (IsS32.below (by repeat (first | (with_reducible first | exact HI0.out | apply IsS32.alloc | apply IsS32.drewN | apply IsS32.drew | apply IsS32.set_0) | exact HI0.out)) hb); have n1_ := Aside0.mk (KeepBut.trans (by repeat (first | (with_reducible first | exact HK.out | apply KeepBut.set_ | apply keep_drewN | apply keep_drew | apply keep_alloc) | exact HK.out)) (KeepBut.of_below hb g none) (.inl rfl)); have n2_ := Aside0.mk (below_step (by repeat (first | (with_reducible first | exact HB.out | apply below_alloc | apply pw_below_drewN | apply below_drew1 | refine below_set ?_ (IsS32.ge HI0.out)) | exact HB.out)) hb); have n3_ := Aside0.mk (hbox); have n4_ := Aside0.mk ((by rw [hg]; exact (keep_size (w := w) (g := g) (row := none) (by repeat (first | (with_reducible first | exact HK.out | apply KeepBut.set_ | apply keep_drewN | apply keep_drew | apply keep_alloc) | exact HK.out))) : w.heap.size ≤ gb148)); have n5_ := Aside0.mk ((Nat.le_trans HW0.out (by rw [hg]; exact (keep_size (w := w) (g := g) (row := none) (by repeat (first | (with_reducible first | exact HK.out | apply KeepBut.set_ | apply keep_drewN | apply keep_drew | apply keep_alloc) | exact HK.out))) : w.heap.size ≤ gb148) : w0.heap.size ≤ gb148)); have n6_ := Aside0.mk ((by rw [hg]; exact Nat.ne_of_lt (IsS32.lt (show IsS32 w0 _ g s0_0 from by repeat (first | (with_reducible first | exact HI0.out | apply IsS32.alloc | apply IsS32.drewN | apply IsS32.drew | apply IsS32.set_0) | exact HI0.out))) : g ≠ gb148)); have n7_ := Aside0.mk ((by rw [hg]; exact Nat.ne_of_gt (IsS32.lt (show IsS32 w0 _ g s0_0 from by repeat (first | (with_reducible first | exact HI0.out | apply IsS32.alloc | apply IsS32.drewN | apply IsS32.drew | apply IsS32.set_0) | exact HI0.out))) : gb148 ≠ g)); clear HI0; clear HK; clear HB; have HI0 := n0_; have HK := n1_; have HB := n2_; have BK148 := n3_; have GW148 := n4_; have GE148 := n5_; have NB0_148 := n6_; have NB148_0 := n7_; clear n0_ n1_ n2_ n3_ n4_ n5_ n6_ n7_; clear hb hbox hg) | ((with_reducible refine gate_dst (N := 3) rfl ?_); refine box_event ?hg (N := 3) ?hd (cs := #[.slice none 0 0, .int .i64 0, .int .i64 0, .int .i64 0, .int .i64 0, .int .i64 0, .int .i64 0, .int .i64 0, .int .i64 0, .int .i64 0, .int .i64 0, .int .u64 0]) (t := 25) ?hr ?_; (case hd => rfl); (case hg => rfl); (case hr => first | (go_simp; done) | (go_simp; rfl)); intro gb149 hg w4 hbox hb; have n0_ := Aside0.mk (IsS32.below (by repeat (first | (with_reducible first | exact HI0.out | apply IsS32.alloc | apply IsS32.drewN | apply IsS32.drew | apply IsS32.set_0 | refine IsS32.far ?_ NB0_148.out _) | exact HI0.out)) hb); have n1_ := Aside0.mk (blk_below (g := gb148) (o := .cells #[.slice none 0 0, .int .i64 0, .int .i64 0, .int .i64 0, .int .i64 0, .int .i64 0, .int .i64 0, .int .i64 0, .int .i64 0, .int .i64 0, .int .i64 0, .int .u64 0] 25 (0, 0)) (by (with_reducible repeat (first | refine blk_drewN ?_ _ | refine blk_drew ?_ | refine blk_alloc ?_ _)); exact BK148.out) hb); have n2_ := Aside0.mk (KeepBut.trans (by repeat (first | (with_reducible first | exact HK.out | apply KeepBut.set_ | apply keep_drewN | apply keep_drew | apply keep_alloc | refine keep_far ?_ GW148.out _) | exact HK.out)) (KeepBut.of_below hb g none) (.inl rfl)); have n3_ := Aside0.mk (below_step (by repeat (first | (with_reducible first | exact HB.out | apply below_alloc | apply pw_below_drewN | apply below_drew1 | refine below_set ?_ (IsS32.ge HI0.out) | refine below_set ?_ GE148.out) | exact HB.out)) hb); have n4_ := Aside0.mk (hbox); have n5_ := Aside0.mk ((by rw [hg]; exact (keep_size (w := w) (g := g) (row := none) (by repeat (first | (with_reducible first | exact HK.out | apply KeepBut.set_ | apply keep_drewN | apply keep_drew | apply keep_alloc | refine keep_far ?_ GW148.out _) | exact HK.out))) : w.heap.size ≤ gb149)); have n6_ := Aside0.mk ((Nat.le_trans HW0.out (by rw [hg]; exact (keep_size (w := w) (g := g) (row := none) (by repeat (first | (with_reducible first | exact HK.out | apply KeepBut.set_ | apply keep_drewN | apply keep_drew | apply keep_alloc | refine keep_far ?_ GW148.out _) | exact HK.out))) : w.heap.size ≤ gb149) : w0.heap.size ≤ gb149)); have n7_ := Aside0.mk ((by rw [hg]; exact Nat.ne_of_lt (blk_lt (g := gb148) (o := .cells #[.slice none 0 0, .int .i64 0, .int .i64 0, .int .i64 0, .int .i64 0, .int .i64 0, .int .i64 0, .int .i64 0, .int .i64 0, .int .i64 0, .int .i64 0, .int .u64 0] 25 (0, 0)) (by (with_reducible repeat (first | refine blk_drewN ?_ _ | refine blk_drew ?_ | refine blk_alloc ?_ _)); exact BK148.out)) : gb148 ≠ gb149)); have n8_ := Aside0.mk ((by rw [hg]; exact Nat.ne_of_gt (blk_lt (g := gb148) (o := .cells #[.slice none 0 0, .int .i64 0, .int .i64 0, .int .i64 0, .int .i64 0, .int .i64 0, .int .i64 0, .int .i64 0, .int .i64 0, .int .i64 0, .int .i64 0, .int .u64 0] 25 (0, 0)) (by (with_reducible repeat (first | refine blk_drewN ?_ _ | refine blk_drew ?_ | refine blk_alloc ?_ _)); exact BK148.out)) : gb149 ≠ gb148)); have n9_ := Aside0.mk ((by rw [hg]; exact Nat.ne_of_lt (IsS32.lt (show IsS32 w0 _ g s0_0 from by repeat (first | (with_reducible first | exact HI0.out | apply IsS32.alloc | apply IsS32.drewN | apply IsS32.drew | apply IsS32.set_0 | refine IsS32.far ?_ NB0_148.out _) | exact HI0.out))) : g ≠ gb149)); have n10_ := Aside0.mk ((by rw [hg]; exact Nat.ne_of_gt (IsS32.lt (show IsS32 w0 _ g s0_0 from by repeat (first | (with_reducible first | exact HI0.out | apply IsS32.alloc | apply IsS32.drewN | apply IsS32.drew | apply IsS32.set_0 | refine IsS32.far ?_ NB0_148.out _) | exact HI0.out))) : gb149 ≠ g)); clear HI0; clear BK148; clear HK; clear HB; have HI0 := n0_; have BK148 := n1_; have HK := n2_; have HB := n3_; have BK149 := n4_; have GW149 := n5_; have GE149 := n6_; have NB148_149 := n7_; have NB149_148 := n8_; have NB0_149 := n9_; have NB149_0 := n10_; clear n0_ n1_ n2_ n3_ n4_ n5_ n6_ n7_ n8_ n9_ n10_; clear hb hbox hg; have hnb5 := NB149_148.out; have hnc5 := NB148_149.out; have hnb6 := NB149_0.out; have hnc6 := NB0_149.out; have hcz7_0 : w4.cell? ⟨gb149, 0, none⟩ = some (.slice none 0 0) := (blk_cell BK149.out 0).trans rfl; have hcz7_1 : w4.cell? ⟨gb149, 1, none⟩ = some (.int .i64 0) := (blk_cell BK149.out 1).trans rfl; have hcz7_2 : w4.cell? ⟨gb149, 2, none⟩ = some (.int .i64 0) := (blk_cell BK149.out 2).trans rfl; have hcz7_3 : w4.cell? ⟨gb149, 3, none⟩ = some (.int .i64 0) := (blk_cell BK149.out 3).trans rfl; have hcz7_4 : w4.cell? ⟨gb149, 4, none⟩ = some (.int .i64 0) := (blk_cell BK149.out 4).trans rfl; have hcz7_5 : w4.cell? ⟨gb149, 5, none⟩ = some (.int .i64 0) := (blk_cell BK149.out 5).trans rfl; have hcz7_6 : w4.cell? ⟨gb149, 6, none⟩ = some (.int .i64 0) := (blk_cell BK149.out 6).trans rfl; have hcz7_7 : w4.cell? ⟨gb149, 7, none⟩ = some (.int .i64 0) := (blk_cell BK149.out 7).trans rfl; have hcz7_8 : w4.cell? ⟨gb149, 8, none⟩ = some (.int .i64 0) := (blk_cell BK149.out 8).trans rfl; have hcz7_9 : w4.cell? ⟨gb149, 9, none⟩ = some (.int .i64 0) := (blk_cell BK149.out 9).trans rfl; have hcz7_10 : w4.cell? ⟨gb149, 10, none⟩ = some (.int .i64 0) := (blk_cell BK149.out 10).trans rfl; have hcz7_11 : w4.cell? ⟨gb149, 11, none⟩ = some (.int .u64 0) := (blk_cell BK149.out 11).trans rfl; have hfz7_0 := blk_frozen BK149.out 0; have hfz7_1 := blk_frozen BK149.out 1; have hfz7_2 := blk_frozen BK149.out 2; have hfz7_3 := blk_frozen BK149.out 3; have hfz7_4 := blk_frozen BK149.out 4; have hfz7_5 := blk_frozen BK149.out 5; have hfz7_6 := blk_frozen BK149.out 6; have hfz7_7 := blk_frozen BK149.out 7; have hfz7_8 := blk_frozen BK149.out 8; have hfz7_9 := blk_frozen BK149.out 9; have hfz7_10 := blk_frozen BK149.out 10; have hfz7_11 := blk_frozen BK149.out 11) | ((with_reducible refine gate_callee (f := 22) rfl ?_); refine goesL_ (some 8) rfl rfl Try.func22 (by kernel_rfl) rfl #[.pointer (some ⟨g, 0, none⟩), .int .i64 3] rfl (by (try simp only [List.map_toArray, List.map_cons, List.map_nil]); first | done | rfl | (simp only [List.length_drop, List.length_take]; rfl)) ?_; (with_reducible refine (muleteerref40_Dice_Below.calls g s0_0 3 t150 t151 w0 _ ?side1 ?side2 A2.out).mono ?_); (case side1 => repeat (first | (with_reducible first | exact HI0.out | apply IsS32.alloc | apply IsS32.drewN | apply IsS32.drew | apply IsS32.set_0 | refine IsS32.far ?_ NB0_148.out _ | refine IsS32.far ?_ NB0_149.out _) | exact HI0.out)); (case side2 => repeat (first | (with_reducible first | exact HB.out | apply below_alloc | apply pw_below_drewN | apply below_drew1 | refine below_set ?_ (IsS32.ge HI0.out) | refine below_set ?_ GE148.out | refine below_set ?_ GE149.out) | exact HB.out)); rintro e w8 ⟨rfl, hi, hb, hk⟩; refine ⟨_, rfl, ?_⟩; have n0_ := Aside0.mk (KeepBut.blk hk (g' := gb148) (o := .cells #[.slice none 0 0, .int .i64 0, .int .i64 0, .int .i64 0, .int .i64 0, .int .i64 0, .int .i64 0, .int .i64 0, .int .i64 0, .int .i64 0, .int .i64 0, .int .u64 0] 25 (0, 0)) (by (with_reducible repeat (first | refine blk_drewN ?_ _ | refine blk_drew ?_ | refine blk_alloc ?_ _)); refine blk_far ?_ NB148_149.out _; (with_reducible repeat (first | refine blk_drewN ?_ _ | refine blk_drew ?_ | refine blk_alloc ?_ _)); refine blk_far ?_ NB148_149.out _; (with_reducible repeat (first | refine blk_drewN ?_ _ | refine blk_drew ?_ | refine blk_alloc ?_ _)); refine blk_far ?_ NB148_149.out _; (with_reducible repeat (first | refine blk_drewN ?_ _ | refine blk_drew ?_ | refine blk_alloc ?_ _)); refine blk_far ?_ NB148_149.out _; (with_reducible repeat (first | refine blk_drewN ?_ _ | refine blk_drew ?_ | refine blk_alloc ?_ _)); refine blk_far ?_ NB148_149.out _; (with_reducible repeat (first | refine blk_drewN ?_ _ | refine blk_drew ?_ | refine blk_alloc ?_ _)); refine blk_far ?_ NB148_149.out _; (with_reducible repeat (first | refine blk_drewN ?_ _ | refine blk_drew ?_ | refine blk_alloc ?_ _)); refine blk_far ?_ NB148_149.out _; (with_reducible repeat (first | refine blk_drewN ?_ _ | refine blk_drew ?_ | refine blk_alloc ?_ _)); refine blk_far ?_ NB148_149.out _; (with_reducible repeat (first | refine blk_drewN ?_ _ | refine blk_drew ?_ | refine blk_alloc ?_ _)); refine blk_far ?_ NB148_149.out _; (with_reducible repeat (first | refine blk_drewN ?_ _ | refine blk_drew ?_ | refine blk_alloc ?_ _)); refine blk_far ?_ NB148_149.out _; (with_reducible repeat (first | refine blk_drewN ?_ _ | refine blk_drew ?_ | refine blk_alloc ?_ _)); refine blk_far ?_ NB148_149.out _; (with_reducible repeat (first | refine blk_drewN ?_ _ | refine blk_drew ?_ | refine blk_alloc ?_ _)); refine blk_far ?_ NB148_149.out _; (with_reducible repeat (first | refine blk_drewN ?_ _ | refine blk_drew ?_ | refine blk_alloc ?_ _)); exact BK148.out) NB148_0.out (by simp)); have n1_ := Aside0.mk (KeepBut.blk hk (g' := gb149) (o := .cells #[.slice none 0 0, .int .i64 0, .int .i64 0, .int .i64 0, .int .i64 0, .int .i64 0, .int .i64 0, .int .i64 0, .int .i64 0, .int .i64 0, .int .i64 0, .int .u64 0] 25 (0, 0)) (by (with_reducible repeat (first | refine blk_drewN ?_ _ | refine blk_drew ?_ | refine blk_alloc ?_ _)); refine blk_put (cs := #[.slice none 0 0, .int .i64 0, .int .i64 0, .int .i64 0, .int .i64 0, .int .i64 0, .int .i64 0, .int .i64 0, .int .i64 0, .int .i64 0, .int .i64 0, .int .u64 0]) ?_ 11 _ rfl; (with_reducible repeat (first | refine blk_drewN ?_ _ | refine blk_drew ?_ | refine blk_alloc ?_ _)); refine blk_put (cs := #[.slice none 0 0, .int .i64 0, .int .i64 0, .int .i64 0, .int .i64 0, .int .i64 0, .int .i64 0, .int .i64 0, .int .i64 0, .int .i64 0, .int .i64 0, .int .u64 0]) ?_ 10 _ rfl; (with_reducible repeat (first | refine blk_drewN ?_ _ | refine blk_drew ?_ | refine blk_alloc ?_ _)); refine blk_put (cs := #[.slice none 0 0, .int .i64 0, .int .i64 0, .int .i64 0, .int .i64 0, .int .i64 0, .int .i64 0, .int .i64 0, .int .i64 0, .int .i64 0, .int .i64 0, .int .u64 0]) ?_ 9 _ rfl; (with_reducible repeat (first | refine blk_drewN ?_ _ | refine blk_drew ?_ | refine blk_alloc ?_ _)); refine blk_put (cs := #[.slice none 0 0, .int .i64 0, .int .i64 0, .int .i64 0, .int .i64 0, .int .i64 0, .int .i64 0, .int .i64 0, .int .i64 0, .int .i64 0, .int .i64 0, .int .u64 0]) ?_ 8 _ rfl; (with_reducible repeat (first | refine blk_drewN ?_ _ | refine blk_drew ?_ | refine blk_alloc ?_ _)); refine blk_put (cs := #[.slice none 0 0, .int .i64 0, .int .i64 0, .int .i64 0, .int .i64 0, .int .i64 0, .int .i64 0, .int .i64 0, .int .i64 0, .int .i64 0, .int .i64 0, .int .u64 0]) ?_ 7 _ rfl; (with_reducible repeat (first | refine blk_drewN ?_ _ | refine blk_drew ?_ | refine blk_alloc ?_ _)); refine blk_put (cs := #[.slice none 0 0, .int .i64 0, .int .i64 0, .int .i64 0, .int .i64 0, .int .i64 0, .int .i64 0, .int .i64 0, .int .i64 0, .int .i64 0, .int .i64 0, .int .u64 0]) ?_ 6 _ rfl; (with_reducible repeat (first | refine blk_drewN ?_ _ | refine blk_drew ?_ | refine blk_alloc ?_ _)); refine blk_put (cs := #[.slice none 0 0, .int .i64 0, .int .i64 0, .int .i64 0, .int .i64 0, .int .i64 0, .int .i64 0, .int .i64 0, .int .i64 0, .int .i64 0, .int .i64 0, .int .u64 0]) ?_ 5 _ rfl; (with_reducible repeat (first | refine blk_drewN ?_ _ | refine blk_drew ?_ | refine blk_alloc ?_ _)); refine blk_put (cs := #[.slice none 0 0, .int .i64 0, .int .i64 0, .int .i64 0, .int .i64 0, .int .i64 0, .int .i64 0, .int .i64 0, .int .i64 0, .int .i64 0, .int .i64 0, .int .u64 0]) ?_ 4 _ rfl; (with_reducible repeat (first | refine blk_drewN ?_ _ | refine blk_drew ?_ | refine blk_alloc ?_ _)); refine blk_put (cs := #[.slice none 0 0, .int .i64 0, .int .i64 0, .int .i64 0, .int .i64 0, .int .i64 0, .int .i64 0, .int .i64 0, .int .i64 0, .int .i64 0, .int .i64 0, .int .u64 0]) ?_ 3 _ rfl; (with_reducible repeat (first | refine blk_drewN ?_ _ | refine blk_drew ?_ | refine blk_alloc ?_ _)); refine blk_put (cs := #[.slice none 0 0, .int .i64 0, .int .i64 0, .int .i64 0, .int .i64 0, .int .i64 0, .int .i64 0, .int .i64 0, .int .i64 0, .int .i64 0, .int .i64 0, .int .u64 0]) ?_ 2 _ rfl; (with_reducible repeat (first | refine blk_drewN ?_ _ | refine blk_drew ?_ | refine blk_alloc ?_ _)); refine blk_put (cs := #[.slice none 0 0, .int .i64 0, .int .i64 0, .int .i64 0, .int .i64 0, .int .i64 0, .int .i64 0, .int .i64 0, .int .i64 0, .int .i64 0, .int .i64 0, .int .u64 0]) ?_ 1 _ rfl; (with_reducible repeat (first | refine blk_drewN ?_ _ | refine blk_drew ?_ | refine blk_alloc ?_ _)); refine blk_put (cs := #[.slice none 0 0, .int .i64 0, .int .i64 0, .int .i64 0, .int .i64 0, .int .i64 0, .int .i64 0, .int .i64 0, .int .i64 0, .int .i64 0, .int .i64 0, .int .u64 0]) ?_ 0 _ rfl; (with_reducible repeat (first | refine blk_drewN ?_ _ | refine blk_drew ?_ | refine blk_alloc ?_ _)); exact BK149.out) NB149_0.out (by simp)); have n2_ := Aside0.mk (KeepBut.trans (by repeat (first | (with_reducible first | exact HK.out | apply KeepBut.set_ | apply keep_drewN | apply keep_drew | apply keep_alloc | refine keep_far ?_ GW148.out _ | refine keep_far ?_ GW149.out _) | exact HK.out)) hk (.inl rfl)); have n3_ := Aside0.mk (hb); have n4_ := Aside0.mk (hi); clear BK148; clear BK149; clear HK; clear HB; clear HI0; have BK148 := n0_; have BK149 := n1_; have HK := n2_; have HB := n3_; have HI0 := n4_; clear n0_ n1_ n2_ n3_ n4_; (try clear hb); (try clear hb2); (try clear hk); (try clear hi)))
  go_loopg [5] k (fun kq v5 w' => ∃ (x5_1 : Int) (x1000_1 : Int) (x150000_1 : List Bool) (u150000 : Value), v5 = .int .i64 x5_1 ∧ Aside0 (muleteerref40_Dice_Config.l0 kq (wrap64 (1 + t150)) x5_1 x1000_1 x150000_1 0 0 0 0 0 0 0 0 0 0 0 = some (r1, r2, r3, r4, r5, r6, r7, r8, r9, r10, r11, r12, r13)) ∧ Aside0 (kq ≤ k) ∧ Aside0 (Kd.R Kd.bool 4 w' w.heap.size (fun _ => True) u150000 x150000_1) ∧ Aside0 (w'.heap[gb148]? = some (.cells #[(.slice none 0 0), .int .i64 0, .int .i64 0, .int .i64 0, .int .i64 0, .int .i64 0, .int .i64 0, .int .i64 0, .int .i64 0, .int .i64 0, .int .i64 0, .int .u64 0] 25 (0, 0))) ∧ Aside0 (w'.heap[gb149]? = some (.cells #[u150000, .int .i64 0, .int .i64 0, .int .i64 0, .int .i64 0, .int .i64 0, .int .i64 0, .int .i64 0, .int .i64 0, .int .i64 0, .int .i64 0, .int .u64 0] 25 (0, 0))) ∧ Aside0 (IsS32 w0 w' g x1000_1) ∧ Aside0 (KeepBut w w' g none) ∧ Aside0 (Below w0.heap.size w0 w'))
  case atStart => exact ⟨(0), (t151), (([] : List Bool)), (.slice none 0 0), (by first | rfl | (simp; done) | (simp [*]; done)), H', ⟨Nat.le_refl _⟩, ⟨by first | exact Kd.R_nil _ _ _ _ _ | exact Kd.N_nil _ _ _ _ _ | exact Kd.V_nil _ _ _ _ _ | exact Kd.Q_nil _ _ _ _ _ | exact Kd.S_nil _ _ _ _ _⟩, ⟨by (with_reducible repeat (first | refine blk_drewN ?_ _ | refine blk_drew ?_ | refine blk_alloc ?_ _)); exact BK148.out⟩, ⟨by (with_reducible repeat (first | refine blk_drewN ?_ _ | refine blk_drew ?_ | refine blk_alloc ?_ _)); exact BK149.out⟩, ⟨by repeat (first | (with_reducible first | exact HI0.out | apply IsS32.alloc | apply IsS32.drewN | apply IsS32.drew | apply IsS32.set_0 | refine IsS32.far ?_ NB0_148.out _ | refine IsS32.far ?_ NB0_149.out _) | exact HI0.out)⟩, ⟨by repeat (first | (with_reducible first | exact HK.out | apply KeepBut.set_ | apply keep_drewN | apply keep_drew | apply keep_alloc | refine keep_far ?_ GW148.out _ | refine keep_far ?_ GW149.out _) | exact HK.out)⟩, ⟨by repeat (first | (with_reducible first | exact HB.out | apply below_alloc | apply pw_below_drewN | apply below_drew1 | refine below_set ?_ (IsS32.ge HI0.out) | refine below_set ?_ GE148.out | refine below_set ?_ GE149.out) | exact HB.out)⟩⟩
  case round =>
    clear H'
    try clear c1
    try clear c2
    try clear p2
    try clear c5
    try clear c6
    try clear p6
    try clear hcz7_0
    try clear hcz7_1
    try clear hcz7_10
    try clear hcz7_11
    try clear hcz7_2
    try clear hcz7_3
    try clear hcz7_4
    try clear hcz7_5
    try clear hcz7_6
    try clear hcz7_7
    try clear hcz7_8
    try clear hcz7_9
    try clear hfz7_0
    try clear hfz7_1
    try clear hfz7_10
    try clear hfz7_11
    try clear hfz7_2
    try clear hfz7_3
    try clear hfz7_4
    try clear hfz7_5
    try clear hfz7_6
    try clear hfz7_7
    try clear hfz7_8
    try clear hfz7_9
    obtain ⟨x5_1, x1000_1, x150000_1, u150000, rfl, HA, HK1, HO_150000, BK148, BK149, HI0, HK, HB⟩ := hrel
    cases gk with
    | zero => exact absurd HA.out (by simp [muleteerref40_Dice_Config.l0])
    | succ k1 =>
      have H := HA.out
      clear HA
      simp only [muleteerref40_Dice_Config.l0] at H
      by_cases c9 : x5_1 < (wrap64 (1 + t150))
      · rw [if_pos c9] at H
        have c9b0 : decide (x5_1 < (wrap64 (1 + t150))) = true := decide_eq_true c9
        clear c9
        replace H := Option.bind_eq_some_iff.mp H
        obtain ⟨⟨t152, t153⟩, A100, H⟩ := H
        replace H : (if x150000_1.length < 140737488355328 then (muleteerref40_Dice_Config.l0 k1 (wrap64 (1 + t150)) (wrap64 (x5_1 + 1)) t153 (x150000_1 ++ [(t152 == 0)]) 0 0 0 0 0 0 0 0 0 0 0) else (none)) = some (r1, r2, r3, r4, r5, r6, r7, r8, r9, r10, r11, r12, r13) := H
        have A10 := Aside0.mk A100
        clear A100
        by_cases c11 : x150000_1.length < 140737488355328
        · rw [if_pos c11] at H
          have LMc11 := Aside0.mk c11
          clear c11
          obtain ⟨y154, hy154⟩ : ∃ y_ : List Bool, y_ = (x150000_1 ++ [(t152 == 0)]) := ⟨_, rfl⟩
          replace H : (muleteerref40_Dice_Config.l0 k1 (wrap64 (1 + t150)) (wrap64 (x5_1 + 1)) t153 y154 0 0 0 0 0 0 0 0 0 0 0) = some (r1, r2, r3, r4, r5, r6, r7, r8, r9, r10, r11, r12, r13) := by first | (rw [hy154]; with_reducible exact H) | (have H2_ := (Option.bind_some _ _).symm.trans H; rw [hy154]; with_reducible exact H2_) | (have H2_ := (Option.bind_some _ _).symm.trans H; with_reducible exact H2_) | with_reducible exact H | (rw [hy154]; exact H) | exact H
          have Ny154 := Aside0.mk hy154
          clear hy154
          have H' := Aside0.mk H
          clear H
          try go_wp2
          have n0_ := Aside0.mk (Kd.R_drew HO_150000.out)
          have n1_ := Aside0.mk (blk_drew BK148.out)
          have n2_ := Aside0.mk (blk_drew BK149.out)
          have n3_ := Aside0.mk (IsS32.drew HI0.out)
          have n4_ := Aside0.mk (keep_drew HK.out)
          have n5_ := Aside0.mk (below_drew1 HB.out)
          clear HO_150000
          clear BK148
          clear BK149
          clear HI0
          clear HK
          clear HB
          have HO_150000 := n0_
          have BK148 := n1_
          have BK149 := n2_
          have HI0 := n3_
          have HK := n4_
          have HB := n5_
          clear n0_ n1_ n2_ n3_ n4_ n5_
          refine start_ (n := 9) (S := fun w' => w'.cell? ⟨gb149, 0, none⟩ = some (u150000) ∧ w'.cell? ⟨gb149, 1, none⟩ = some (.int .i64 0) ∧ w'.cell? ⟨gb149, 2, none⟩ = some (.int .i64 0) ∧ w'.cell? ⟨gb149, 3, none⟩ = some (.int .i64 0) ∧ w'.cell? ⟨gb149, 4, none⟩ = some (.int .i64 0) ∧ w'.cell? ⟨gb149, 5, none⟩ = some (.int .i64 0) ∧ w'.cell? ⟨gb149, 6, none⟩ = some (.int .i64 0) ∧ w'.cell? ⟨gb149, 7, none⟩ = some (.int .i64 0) ∧ w'.cell? ⟨gb149, 8, none⟩ = some (.int .i64 0) ∧ w'.cell? ⟨gb149, 9, none⟩ = some (.int .i64 0) ∧ w'.cell? ⟨gb149, 10, none⟩ = some (.int .i64 0) ∧ w'.cell? ⟨gb149, 11, none⟩ = some (.int .u64 0)) (ds := [8]) #[false, false, false, false, false, false, false, false, false] (by kernel_rfl) rfl rfl ⟨(blk_cell BK149.out 0).trans rfl, (blk_cell BK149.out 1).trans rfl, (blk_cell BK149.out 2).trans rfl, (blk_cell BK149.out 3).trans rfl, (blk_cell BK149.out 4).trans rfl, (blk_cell BK149.out 5).trans rfl, (blk_cell BK149.out 6).trans rfl, (blk_cell BK149.out 7).trans rfl, (blk_cell BK149.out 8).trans rfl, (blk_cell BK149.out 9).trans rfl, (blk_cell BK149.out 10).trans rfl, (blk_cell BK149.out 11).trans rfl⟩ (fun hHeld => ?_); refine with_tabW muleteerref40_Dice_Config.tab6 muleteerref40_Dice_Config.bits6 (fun HT_ HW_ => ?_)
          generalize wr.drew = w12 at HO_150000 BK148 BK149 HI0 HK HB hHeld ⊢
          refine pure_ (i := 0) (N := some 15) (v := ?_) (a' := ?_) #[true, false, false, false, false, false, false, false, false] rfl rfl (any_of HT_.out (by kernel_rfl)) (fun _ _ _ h => h) (Or.inl ⟨by rfl, ?_⟩) ?_ ?_
          rotate_left
          · intro w'
            go_simp
            with_reducible rfl
          rotate_left
          · simp only [Act.put, List.setIfInBounds_toArray, List.set_cons_zero, List.set_cons_succ, i64_w, i32_w]
            rfl
          refine pure_ (i := 2) (N := some 17) (v := ?_) (a' := ?_) #[true, false, true, false, false, false, false, false, false] rfl rfl (any_of HT_.out (by kernel_rfl)) (fun _ _ _ h => h) (Or.inl ⟨by rfl, ?_⟩) ?_ ?_
          rotate_left
          · intro w'
            go_simp
            with_reducible rfl
          rotate_left
          · simp only [Act.put, List.setIfInBounds_toArray, List.set_cons_zero, List.set_cons_succ, i64_w, i32_w]
            rfl
          refine take_ (i := 1) (N := some 16) (v := ?_) (a' := ?_) #[true, true, true, false, false, false, false, false, false] rfl rfl (take_ofW HT_.out HW_.out (by kernel_rfl)) (fun _ _ _ h => h) (Or.inl ⟨by rfl, ?_⟩) hHeld ?_ ?_
          rotate_left
          · rintro w' ⟨s0, s1, s2, s3, s4, s5, s6, s7, s8, s9, s10, s11⟩
            go_simp
            with_reducible rfl
          rotate_left
          · simp only [Act.put, List.setIfInBounds_toArray, List.set_cons_zero, List.set_cons_succ, i64_w, i32_w]
            rfl
          refine one_ (i := 3) (N := some 18) #[true, true, true, true, false, false, false, false, false] rfl rfl (one_of HT_.out (by kernel_rfl)) (by decide) (fun K hK => ?_)
          refine goes_ Try.func22 (by kernel_rfl) rfl #[.pointer (some ⟨g, 0, none⟩), .int .i64 3] (by rfl) rfl rfl (by (try simp only [List.map_toArray, List.map_cons, List.map_nil]); first | done | rfl | (simp only [List.length_drop, List.length_take]; rfl)) ?_
          with_reducible refine (muleteerref40_Dice_Below.calls g x1000_1 3 t152 t153 w0 _ ?side1 ?side2 A10.out).mono ?_
          (case side1 => repeat (first | (with_reducible first | exact HI0.out | apply IsS32.alloc | apply IsS32.drewN | apply IsS32.drew | apply IsS32.set_0 | refine IsS32.far ?_ NB0_148.out _ | refine IsS32.far ?_ NB0_149.out _) | exact HI0.out))
          (case side2 => repeat (first | (with_reducible first | exact HB.out | apply below_alloc | apply pw_below_drewN | apply below_drew1 | refine below_set ?_ (IsS32.ge HI0.out) | refine below_set ?_ GE148.out | refine below_set ?_ GE149.out) | exact HB.out))
          rintro e w13 ⟨rfl, hi, hb, hk⟩
          refine ⟨_, rfl, ?_⟩
          have n0_ := Aside0.mk (Kd.R_mono (Kd.R_keep (IsS32.apart (show IsS32 w0 _ g x1000_1 from by repeat (first | (with_reducible first | exact HI0.out | apply IsS32.alloc | apply IsS32.drewN | apply IsS32.drew | apply IsS32.set_0 | refine IsS32.far ?_ NB0_148.out _ | refine IsS32.far ?_ NB0_149.out _) | exact HI0.out)) (by (with_reducible repeat (first | apply Kd.R_alloc | apply Kd.R_drewN | apply Kd.R_drew)); exact HO_150000.out) (by decide)) hk (fun _ h => h.2)) (fun _ h => h.1))
          have n1_ := Aside0.mk (KeepBut.blk hk (g' := gb148) (o := .cells #[.slice none 0 0, .int .i64 0, .int .i64 0, .int .i64 0, .int .i64 0, .int .i64 0, .int .i64 0, .int .i64 0, .int .i64 0, .int .i64 0, .int .i64 0, .int .u64 0] 25 (0, 0)) (by (with_reducible repeat (first | refine blk_drewN ?_ _ | refine blk_drew ?_ | refine blk_alloc ?_ _)); exact BK148.out) NB148_0.out (by simp))
          have n2_ := Aside0.mk (KeepBut.blk hk (g' := gb149) (o := .cells #[u150000, .int .i64 0, .int .i64 0, .int .i64 0, .int .i64 0, .int .i64 0, .int .i64 0, .int .i64 0, .int .i64 0, .int .i64 0, .int .i64 0, .int .u64 0] 25 (0, 0)) (by (with_reducible repeat (first | refine blk_drewN ?_ _ | refine blk_drew ?_ | refine blk_alloc ?_ _)); exact BK149.out) NB149_0.out (by simp))
          have n3_ := Aside0.mk (KeepBut.trans (by repeat (first | (with_reducible first | exact HK.out | apply KeepBut.set_ | apply keep_drewN | apply keep_drew | apply keep_alloc | refine keep_far ?_ GW148.out _ | refine keep_far ?_ GW149.out _) | exact HK.out)) hk (.inl rfl))
          have n4_ := Aside0.mk (hb)
          have n5_ := Aside0.mk (hi)
          clear HO_150000
          clear BK148
          clear BK149
          clear HK
          clear HB
          clear HI0
          have HO_150000 := n0_
          have BK148 := n1_
          have BK149 := n2_
          have HK := n3_
          have HB := n4_
          have HI0 := n5_
          clear n0_ n1_ n2_ n3_ n4_ n5_
          (try clear hb)
          (try clear hb2)
          (try clear hk)
          (try clear hi)
          refine hK.out _ _ ⟨(blk_cell BK149.out 0).trans rfl, (blk_cell BK149.out 1).trans rfl, (blk_cell BK149.out 2).trans rfl, (blk_cell BK149.out 3).trans rfl, (blk_cell BK149.out 4).trans rfl, (blk_cell BK149.out 5).trans rfl, (blk_cell BK149.out 6).trans rfl, (blk_cell BK149.out 7).trans rfl, (blk_cell BK149.out 8).trans rfl, (blk_cell BK149.out 9).trans rfl, (blk_cell BK149.out 10).trans rfl, (blk_cell BK149.out 11).trans rfl⟩ (fun hHeld => ?_)
          clear hK K
          refine norm_ (a' := ?_) ?_ ?_
          rotate_left
          · show Act.put _ (some 18) _ = _
            simp only [Act.put, List.setIfInBounds_toArray, List.set_cons_zero, List.set_cons_succ, i64_w, i32_w]
            rfl
          refine pure_ (i := 4) (N := some 19) (v := ?_) (a' := ?_) #[true, true, true, true, true, false, false, false, false] rfl rfl (any_of HT_.out (by kernel_rfl)) (fun _ _ _ h => h) (Or.inl ⟨by rfl, ?_⟩) ?_ ?_
          rotate_left
          · intro w'
            go_simp
            with_reducible rfl
          rotate_left
          · simp only [Act.put, List.setIfInBounds_toArray, List.set_cons_zero, List.set_cons_succ, i64_w, i32_w]
            rfl
          refine one_ (i := 5) (N := some 20) #[true, true, true, true, true, true, false, false, false] rfl rfl (one_of HT_.out (by kernel_rfl)) (by decide) (fun K hK => ?_)
          refine value_ (w1 := ?_) (v := ?_) (by rfl) rfl ?_ ?_
          rotate_left 2
          · go_simp
            constructor
            · rfl
            · rfl
          refine hK.out _ _ ⟨(blk_cell (blk_alloc BK149.out _) 0).trans rfl, (blk_cell (blk_alloc BK149.out _) 1).trans rfl, (blk_cell (blk_alloc BK149.out _) 2).trans rfl, (blk_cell (blk_alloc BK149.out _) 3).trans rfl, (blk_cell (blk_alloc BK149.out _) 4).trans rfl, (blk_cell (blk_alloc BK149.out _) 5).trans rfl, (blk_cell (blk_alloc BK149.out _) 6).trans rfl, (blk_cell (blk_alloc BK149.out _) 7).trans rfl, (blk_cell (blk_alloc BK149.out _) 8).trans rfl, (blk_cell (blk_alloc BK149.out _) 9).trans rfl, (blk_cell (blk_alloc BK149.out _) 10).trans rfl, (blk_cell (blk_alloc BK149.out _) 11).trans rfl⟩ (fun hHeld => ?_)
          clear hK K
          refine norm_ (a' := ?_) ?_ ?_
          rotate_left
          · show Act.put _ (some 20) _ = _
            simp only [Act.put, List.setIfInBounds_toArray, List.set_cons_zero, List.set_cons_succ, i64_w, i32_w]
            rfl
          refine one_ (i := 6) (N := some 21) #[true, true, true, true, true, true, true, false, false] rfl rfl (one_of HT_.out (by kernel_rfl)) (by decide) (fun K hK => ?_)
          refine Kd.R_append_step Kd.bool w.heap.size (by rfl) (.tmp 16) (.tmp 20) 23 4 (.bool false) 1 rfl Try.underlying23 info4 rfl (by decide) (by omega) u150000 x150000_1 (t152 == 0) [.bool (t152 == 0)] (fun _ => True) (fun _ => False) rfl rfl ?aP (fun _ hk => hk.elim) ?aF ?aO (Below.refl _ _) ?aS ?aL ?_
          (case aP => exact rfl)
          (case aF => exact (fun _ _ => trivial))
          (case aO => exact (by (with_reducible repeat (first | apply Kd.R_alloc | apply Kd.R_drewN | apply Kd.R_drew)); exact HO_150000.out))
          (case aS => exact (keep_size (w := w) (g := g) (row := none) (by repeat (first | (with_reducible first | exact HK.out | apply KeepBut.set_ | apply keep_drewN | apply keep_drew | apply keep_alloc | refine keep_far ?_ GW148.out _ | refine keep_far ?_ GW149.out _) | exact HK.out))))
          (case aL => have := LMc11.out; omega)
          intro v155 w14 ho hb hg hat
          rw [← Ny154.out] at ho
          have n0_ := Aside0.mk (blk_grown (g := gb148) (o := .cells #[.slice none 0 0, .int .i64 0, .int .i64 0, .int .i64 0, .int .i64 0, .int .i64 0, .int .i64 0, .int .i64 0, .int .i64 0, .int .i64 0, .int .i64 0, .int .u64 0] 25 (0, 0)) (by (with_reducible repeat (first | refine blk_drewN ?_ _ | refine blk_drew ?_ | refine blk_alloc ?_ _)); exact BK148.out) hg (Kd.R_ne HO_150000.out BK148.out (by decide)))
          have n1_ := Aside0.mk (blk_grown (g := gb149) (o := .cells #[u150000, .int .i64 0, .int .i64 0, .int .i64 0, .int .i64 0, .int .i64 0, .int .i64 0, .int .i64 0, .int .i64 0, .int .i64 0, .int .i64 0, .int .u64 0] 25 (0, 0)) (by (with_reducible repeat (first | refine blk_drewN ?_ _ | refine blk_drew ?_ | refine blk_alloc ?_ _)); exact BK149.out) hg (Kd.R_ne HO_150000.out BK149.out (by decide)))
          have n2_ := Aside0.mk (IsS32.grown (by repeat (first | (with_reducible first | exact HI0.out | apply IsS32.alloc | apply IsS32.drewN | apply IsS32.drew | apply IsS32.set_0 | refine IsS32.far ?_ NB0_148.out _ | refine IsS32.far ?_ NB0_149.out _) | exact HI0.out)) hg (IsS32.own_ne HI0.out HO_150000.out (by decide)))
          have n3_ := Aside0.mk (below_weaken (by repeat (first | (with_reducible first | exact HB.out | apply below_alloc | apply pw_below_drewN | apply below_drew1 | refine below_set ?_ (IsS32.ge HI0.out) | refine below_set ?_ GE148.out | refine below_set ?_ GE149.out) | exact HB.out)) HL.out hb)
          have n4_ := Aside0.mk (KeepBut.trans (by repeat (first | (with_reducible first | exact HK.out | apply KeepBut.set_ | apply keep_drewN | apply keep_drew | apply keep_alloc | refine keep_far ?_ GW148.out _ | refine keep_far ?_ GW149.out _) | exact HK.out)) (KeepBut.of_grown hg g) (Kd.R_base2 HO_150000.out))
          have n5_ := Aside0.mk (ho)
          clear BK148
          clear BK149
          clear HI0
          clear HB
          clear HK
          clear HO_150000
          have BK148 := n0_
          have BK149 := n1_
          have HI0 := n2_
          have HB := n3_
          have HK := n4_
          have HO156 := n5_
          clear n0_ n1_ n2_ n3_ n4_ n5_
          clear ho hb hg hat
          obtain ⟨Ao15, co15, eo15⟩ := Kd.R_slice HO156.out
          (first | subst eo15 | (injection eo15 with f1_ f2_ f3_; have f4_ := f1_.symm; have f5_ := f3_.symm; clear f1_ f2_ f3_; subst f4_; subst f5_))
          refine hK.out _ _ ⟨(blk_cell BK149.out 0).trans rfl, (blk_cell BK149.out 1).trans rfl, (blk_cell BK149.out 2).trans rfl, (blk_cell BK149.out 3).trans rfl, (blk_cell BK149.out 4).trans rfl, (blk_cell BK149.out 5).trans rfl, (blk_cell BK149.out 6).trans rfl, (blk_cell BK149.out 7).trans rfl, (blk_cell BK149.out 8).trans rfl, (blk_cell BK149.out 9).trans rfl, (blk_cell BK149.out 10).trans rfl, (blk_cell BK149.out 11).trans rfl⟩ (fun hHeld => ?_)
          clear hK K
          refine norm_ (a' := ?_) ?_ ?_
          rotate_left
          · show Act.put _ (some 21) _ = _
            simp only [Act.put, List.setIfInBounds_toArray, List.set_cons_zero, List.set_cons_succ, i64_w, i32_w]
            rfl
          refine pure_ (i := 7) (N := some 22) (v := ?_) (a' := ?_) #[true, true, true, true, true, true, true, true, false] rfl rfl (any_of HT_.out (by kernel_rfl)) (fun _ _ _ h => h) (Or.inl ⟨by rfl, ?_⟩) ?_ ?_
          rotate_left
          · intro w'
            go_simp
            with_reducible rfl
          rotate_left
          · simp only [Act.put, List.setIfInBounds_toArray, List.set_cons_zero, List.set_cons_succ, i64_w, i32_w]
            rfl
          refine last_ (i := 8) (N := none) #[true, true, true, true, true, true, true, true, true] rfl rfl (one_of HT_.out (by kernel_rfl)) (by decide) (fun K hK => ?_)
          have hs16 : w14.cell? ⟨gb149, 0, none⟩ = some (u150000) := (blk_cell BK149.out 0).trans rfl
          have hfs16 := blk_frozen BK149.out 0
          have hns16_0 := NB148_149.out
          have hms16_0 := NB149_148.out
          refine skip_ (w1 := ?_) (by rfl) rfl ?_ ?_
          rotate_left
          · go_simp
            rfl
          refine hK.out _ _ ?_
          clear hK K
          refine done_ (done_of HT_.out (by kernel_rfl)) ?_
          try go_wp2
          go_roundg k1
          case measure => have := HK1.out; omega
          case rel => exact ⟨(wrap64 (x5_1 + 1)), (t153), (y154), (.slice Ao15 y154.length co15), (by first | rfl | (simp; done) | (simp [*]; done)), H', ⟨by have := HK1.out; omega⟩, ⟨by (with_reducible repeat (first | apply Kd.R_alloc | apply Kd.R_drewN | apply Kd.R_drew)); exact Kd.R_mono (Kd.R_far (p := ⟨gb149, 0, none⟩) (Kd.R_types HO156.out BK149.out (by decide)) (fun _ hk => hk.2) (.slice Ao15 y154.length co15)) (fun _ hk => trivial)⟩, ⟨by (with_reducible repeat (first | refine blk_drewN ?_ _ | refine blk_drew ?_ | refine blk_alloc ?_ _)); refine blk_far ?_ NB148_149.out _; (with_reducible repeat (first | refine blk_drewN ?_ _ | refine blk_drew ?_ | refine blk_alloc ?_ _)); exact BK148.out⟩, ⟨by (with_reducible repeat (first | refine blk_drewN ?_ _ | refine blk_drew ?_ | refine blk_alloc ?_ _)); refine blk_put (cs := #[u150000, .int .i64 0, .int .i64 0, .int .i64 0, .int .i64 0, .int .i64 0, .int .i64 0, .int .i64 0, .int .i64 0, .int .i64 0, .int .i64 0, .int .u64 0]) ?_ 0 _ rfl; (with_reducible repeat (first | refine blk_drewN ?_ _ | refine blk_drew ?_ | refine blk_alloc ?_ _)); exact BK149.out⟩, ⟨by repeat (first | (with_reducible first | exact HI0.out | apply IsS32.alloc | apply IsS32.drewN | apply IsS32.drew | apply IsS32.set_0 | refine IsS32.far ?_ NB0_148.out _ | refine IsS32.far ?_ NB0_149.out _) | exact HI0.out)⟩, ⟨by repeat (first | (with_reducible first | exact HK.out | apply KeepBut.set_ | apply keep_drewN | apply keep_drew | apply keep_alloc | refine keep_far ?_ GW148.out _ | refine keep_far ?_ GW149.out _) | exact HK.out)⟩, ⟨by repeat (first | (with_reducible first | exact HB.out | apply below_alloc | apply pw_below_drewN | apply below_drew1 | refine below_set ?_ (IsS32.ge HI0.out) | refine below_set ?_ GE148.out | refine below_set ?_ GE149.out) | exact HB.out)⟩⟩
        · rw [if_neg c11] at H
          exact absurd H (by simp)
      · rw [if_neg c9] at H
        have c9b0 : decide (x5_1 < (wrap64 (1 + t150))) = false := decide_eq_false c9
        clear c9
        replace H := Option.bind_eq_some_iff.mp H
        obtain ⟨⟨t157, t158⟩, A170, H⟩ := H
        replace H : ((muleteerref40_Dice_Below.f t158 3).bind fun bt159 => ((muleteerref40_Dice_Below.f bt159.2 5).bind fun bt161 => ((muleteerref40_Dice_Below.f bt161.2 5).bind fun bt163 => ((muleteerref40_Dice_Below.f bt163.2 3).bind fun bt165 => ((muleteerref40_Dice_Below.f bt165.2 3).bind fun bt167 => ((muleteerref40_Dice_Below.f bt167.2 2).bind fun bt169 => ((muleteerref40_Dice_Below.f bt169.2 4).bind fun bt171 => ((muleteerref40_Dice_Below.f bt171.2 5).bind fun bt173 => ((muleteerref40_Dice_Below.f bt173.2 3).bind fun bt175 => ((muleteerref40_Dice_Below.f bt175.2 1000).bind fun bt177 => (some (x150000_1, wrap64 (1 + t157), wrap64 (1 + bt159.1), wrap64 (1 + bt161.1), wrap64 (1 + bt163.1), wrap64 (1 + bt165.1), wrap64 (1 + bt167.1), wrap64 (1 + bt169.1), wrap64 (1 + bt171.1), wrap64 (1 + bt173.1), bt175.1, IntKind.u64.wrap (bt177.1), bt177.2)))))))))))) = some (r1, r2, r3, r4, r5, r6, r7, r8, r9, r10, r11, r12, r13) := H
        have A17 := Aside0.mk A170
        clear A170
        replace H := Option.bind_eq_some_iff.mp H
        obtain ⟨⟨t159, t160⟩, A180, H⟩ := H
        replace H : ((muleteerref40_Dice_Below.f t160 5).bind fun bt161 => ((muleteerref40_Dice_Below.f bt161.2 5).bind fun bt163 => ((muleteerref40_Dice_Below.f bt163.2 3).bind fun bt165 => ((muleteerref40_Dice_Below.f bt165.2 3).bind fun bt167 => ((muleteerref40_Dice_Below.f bt167.2 2).bind fun bt169 => ((muleteerref40_Dice_Below.f bt169.2 4).bind fun bt171 => ((muleteerref40_Dice_Below.f bt171.2 5).bind fun bt173 => ((muleteerref40_Dice_Below.f bt173.2 3).bind fun bt175 => ((muleteerref40_Dice_Below.f bt175.2 1000).bind fun bt177 => (some (x150000_1, wrap64 (1 + t157), wrap64 (1 + t159), wrap64 (1 + bt161.1), wrap64 (1 + bt163.1), wrap64 (1 + bt165.1), wrap64 (1 + bt167.1), wrap64 (1 + bt169.1), wrap64 (1 + bt171.1), wrap64 (1 + bt173.1), bt175.1, IntKind.u64.wrap (bt177.1), bt177.2))))))))))) = some (r1, r2, r3, r4, r5, r6, r7, r8, r9, r10, r11, r12, r13) := H
        have A18 := Aside0.mk A180
        clear A180
        replace H := Option.bind_eq_some_iff.mp H
        obtain ⟨⟨t161, t162⟩, A190, H⟩ := H
        replace H : ((muleteerref40_Dice_Below.f t162 5).bind fun bt163 => ((muleteerref40_Dice_Below.f bt163.2 3).bind fun bt165 => ((muleteerref40_Dice_Below.f bt165.2 3).bind fun bt167 => ((muleteerref40_Dice_Below.f bt167.2 2).bind fun bt169 => ((muleteerref40_Dice_Below.f bt169.2 4).bind fun bt171 => ((muleteerref40_Dice_Below.f bt171.2 5).bind fun bt173 => ((muleteerref40_Dice_Below.f bt173.2 3).bind fun bt175 => ((muleteerref40_Dice_Below.f bt175.2 1000).bind fun bt177 => (some (x150000_1, wrap64 (1 + t157), wrap64 (1 + t159), wrap64 (1 + t161), wrap64 (1 + bt163.1), wrap64 (1 + bt165.1), wrap64 (1 + bt167.1), wrap64 (1 + bt169.1), wrap64 (1 + bt171.1), wrap64 (1 + bt173.1), bt175.1, IntKind.u64.wrap (bt177.1), bt177.2)))))))))) = some (r1, r2, r3, r4, r5, r6, r7, r8, r9, r10, r11, r12, r13) := H
        have A19 := Aside0.mk A190
        clear A190
        replace H := Option.bind_eq_some_iff.mp H
        obtain ⟨⟨t163, t164⟩, A200, H⟩ := H
        replace H : ((muleteerref40_Dice_Below.f t164 3).bind fun bt165 => ((muleteerref40_Dice_Below.f bt165.2 3).bind fun bt167 => ((muleteerref40_Dice_Below.f bt167.2 2).bind fun bt169 => ((muleteerref40_Dice_Below.f bt169.2 4).bind fun bt171 => ((muleteerref40_Dice_Below.f bt171.2 5).bind fun bt173 => ((muleteerref40_Dice_Below.f bt173.2 3).bind fun bt175 => ((muleteerref40_Dice_Below.f bt175.2 1000).bind fun bt177 => (some (x150000_1, wrap64 (1 + t157), wrap64 (1 + t159), wrap64 (1 + t161), wrap64 (1 + t163), wrap64 (1 + bt165.1), wrap64 (1 + bt167.1), wrap64 (1 + bt169.1), wrap64 (1 + bt171.1), wrap64 (1 + bt173.1), bt175.1, IntKind.u64.wrap (bt177.1), bt177.2))))))))) = some (r1, r2, r3, r4, r5, r6, r7, r8, r9, r10, r11, r12, r13) := H
        have A20 := Aside0.mk A200
        clear A200
        replace H := Option.bind_eq_some_iff.mp H
        obtain ⟨⟨t165, t166⟩, A210, H⟩ := H
        replace H : ((muleteerref40_Dice_Below.f t166 3).bind fun bt167 => ((muleteerref40_Dice_Below.f bt167.2 2).bind fun bt169 => ((muleteerref40_Dice_Below.f bt169.2 4).bind fun bt171 => ((muleteerref40_Dice_Below.f bt171.2 5).bind fun bt173 => ((muleteerref40_Dice_Below.f bt173.2 3).bind fun bt175 => ((muleteerref40_Dice_Below.f bt175.2 1000).bind fun bt177 => (some (x150000_1, wrap64 (1 + t157), wrap64 (1 + t159), wrap64 (1 + t161), wrap64 (1 + t163), wrap64 (1 + t165), wrap64 (1 + bt167.1), wrap64 (1 + bt169.1), wrap64 (1 + bt171.1), wrap64 (1 + bt173.1), bt175.1, IntKind.u64.wrap (bt177.1), bt177.2)))))))) = some (r1, r2, r3, r4, r5, r6, r7, r8, r9, r10, r11, r12, r13) := H
        have A21 := Aside0.mk A210
        clear A210
        replace H := Option.bind_eq_some_iff.mp H
        obtain ⟨⟨t167, t168⟩, A220, H⟩ := H
        replace H : ((muleteerref40_Dice_Below.f t168 2).bind fun bt169 => ((muleteerref40_Dice_Below.f bt169.2 4).bind fun bt171 => ((muleteerref40_Dice_Below.f bt171.2 5).bind fun bt173 => ((muleteerref40_Dice_Below.f bt173.2 3).bind fun bt175 => ((muleteerref40_Dice_Below.f bt175.2 1000).bind fun bt177 => (some (x150000_1, wrap64 (1 + t157), wrap64 (1 + t159), wrap64 (1 + t161), wrap64 (1 + t163), wrap64 (1 + t165), wrap64 (1 + t167), wrap64 (1 + bt169.1), wrap64 (1 + bt171.1), wrap64 (1 + bt173.1), bt175.1, IntKind.u64.wrap (bt177.1), bt177.2))))))) = some (r1, r2, r3, r4, r5, r6, r7, r8, r9, r10, r11, r12, r13) := H
        have A22 := Aside0.mk A220
        clear A220
        replace H := Option.bind_eq_some_iff.mp H
        obtain ⟨⟨t169, t170⟩, A230, H⟩ := H
        replace H : ((muleteerref40_Dice_Below.f t170 4).bind fun bt171 => ((muleteerref40_Dice_Below.f bt171.2 5).bind fun bt173 => ((muleteerref40_Dice_Below.f bt173.2 3).bind fun bt175 => ((muleteerref40_Dice_Below.f bt175.2 1000).bind fun bt177 => (some (x150000_1, wrap64 (1 + t157), wrap64 (1 + t159), wrap64 (1 + t161), wrap64 (1 + t163), wrap64 (1 + t165), wrap64 (1 + t167), wrap64 (1 + t169), wrap64 (1 + bt171.1), wrap64 (1 + bt173.1), bt175.1, IntKind.u64.wrap (bt177.1), bt177.2)))))) = some (r1, r2, r3, r4, r5, r6, r7, r8, r9, r10, r11, r12, r13) := H
        have A23 := Aside0.mk A230
        clear A230
        replace H := Option.bind_eq_some_iff.mp H
        obtain ⟨⟨t171, t172⟩, A240, H⟩ := H
        replace H : ((muleteerref40_Dice_Below.f t172 5).bind fun bt173 => ((muleteerref40_Dice_Below.f bt173.2 3).bind fun bt175 => ((muleteerref40_Dice_Below.f bt175.2 1000).bind fun bt177 => (some (x150000_1, wrap64 (1 + t157), wrap64 (1 + t159), wrap64 (1 + t161), wrap64 (1 + t163), wrap64 (1 + t165), wrap64 (1 + t167), wrap64 (1 + t169), wrap64 (1 + t171), wrap64 (1 + bt173.1), bt175.1, IntKind.u64.wrap (bt177.1), bt177.2))))) = some (r1, r2, r3, r4, r5, r6, r7, r8, r9, r10, r11, r12, r13) := H
        have A24 := Aside0.mk A240
        clear A240
        replace H := Option.bind_eq_some_iff.mp H
        obtain ⟨⟨t173, t174⟩, A250, H⟩ := H
        replace H : ((muleteerref40_Dice_Below.f t174 3).bind fun bt175 => ((muleteerref40_Dice_Below.f bt175.2 1000).bind fun bt177 => (some (x150000_1, wrap64 (1 + t157), wrap64 (1 + t159), wrap64 (1 + t161), wrap64 (1 + t163), wrap64 (1 + t165), wrap64 (1 + t167), wrap64 (1 + t169), wrap64 (1 + t171), wrap64 (1 + t173), bt175.1, IntKind.u64.wrap (bt177.1), bt177.2)))) = some (r1, r2, r3, r4, r5, r6, r7, r8, r9, r10, r11, r12, r13) := H
        have A25 := Aside0.mk A250
        clear A250
        replace H := Option.bind_eq_some_iff.mp H
        obtain ⟨⟨t175, t176⟩, A260, H⟩ := H
        replace H : ((muleteerref40_Dice_Below.f t176 1000).bind fun bt177 => (some (x150000_1, wrap64 (1 + t157), wrap64 (1 + t159), wrap64 (1 + t161), wrap64 (1 + t163), wrap64 (1 + t165), wrap64 (1 + t167), wrap64 (1 + t169), wrap64 (1 + t171), wrap64 (1 + t173), t175, IntKind.u64.wrap (bt177.1), bt177.2))) = some (r1, r2, r3, r4, r5, r6, r7, r8, r9, r10, r11, r12, r13) := H
        have A26 := Aside0.mk A260
        clear A260
        replace H := Option.bind_eq_some_iff.mp H
        obtain ⟨⟨t177, t178⟩, A270, H⟩ := H
        replace H : (some (x150000_1, wrap64 (1 + t157), wrap64 (1 + t159), wrap64 (1 + t161), wrap64 (1 + t163), wrap64 (1 + t165), wrap64 (1 + t167), wrap64 (1 + t169), wrap64 (1 + t171), wrap64 (1 + t173), t175, IntKind.u64.wrap (t177), t178)) = some (r1, r2, r3, r4, r5, r6, r7, r8, r9, r10, r11, r12, r13) := H
        have A27 := Aside0.mk A270
        clear A270
        simp only [Option.some.injEq, Prod.mk.injEq] at H
        obtain ⟨rfl, rfl, rfl, rfl, rfl, rfl, rfl, rfl, rfl, rfl, rfl, rfl, rfl⟩ := H
        go_wp2_with (first | ((with_reducible refine gate_callee (f := 22) rfl ?_); refine goesL_ (some 24) rfl rfl Try.func22 (by kernel_rfl) rfl #[.pointer (some ⟨g, 0, none⟩), .int .i64 2] rfl (by (try simp only [List.map_toArray, List.map_cons, List.map_nil]); first | done | rfl | (simp only [List.length_drop, List.length_take]; rfl)) ?_; (with_reducible refine (muleteerref40_Dice_Below.calls g x1000_1 2 t157 t158 w0 _ ?side1 ?side2 A17.out).mono ?_); (case side1 => repeat (first | (with_reducible first | exact HI0.out | apply IsS32.alloc | apply IsS32.drewN | apply IsS32.drew | apply IsS32.set_0 | refine IsS32.far ?_ NB0_148.out _ | refine IsS32.far ?_ NB0_149.out _) | exact HI0.out)); (case side2 => repeat (first | (with_reducible first | exact HB.out | apply below_alloc | apply pw_below_drewN | apply below_drew1 | refine below_set ?_ (IsS32.ge HI0.out) | refine below_set ?_ GE148.out | refine below_set ?_ GE149.out) | exact HB.out)); rintro e w28 ⟨rfl, hi, hb, hk⟩; refine ⟨_, rfl, ?_⟩; have n0_ := Aside0.mk (Kd.R_mono (Kd.R_keep (IsS32.apart (show IsS32 w0 _ g x1000_1 from by repeat (first | (with_reducible first | exact HI0.out | apply IsS32.alloc | apply IsS32.drewN | apply IsS32.drew | apply IsS32.set_0 | refine IsS32.far ?_ NB0_148.out _ | refine IsS32.far ?_ NB0_149.out _) | exact HI0.out)) (by (with_reducible repeat (first | apply Kd.R_alloc | apply Kd.R_drewN | apply Kd.R_drew)); exact HO_150000.out) (by decide)) hk (fun _ h => h.2)) (fun _ h => h.1)); have n1_ := Aside0.mk (KeepBut.blk hk (g' := gb148) (o := .cells #[.slice none 0 0, .int .i64 0, .int .i64 0, .int .i64 0, .int .i64 0, .int .i64 0, .int .i64 0, .int .i64 0, .int .i64 0, .int .i64 0, .int .i64 0, .int .u64 0] 25 (0, 0)) (by (with_reducible repeat (first | refine blk_drewN ?_ _ | refine blk_drew ?_ | refine blk_alloc ?_ _)); exact BK148.out) NB148_0.out (by simp)); have n2_ := Aside0.mk (KeepBut.blk hk (g' := gb149) (o := .cells #[u150000, .int .i64 0, .int .i64 0, .int .i64 0, .int .i64 0, .int .i64 0, .int .i64 0, .int .i64 0, .int .i64 0, .int .i64 0, .int .i64 0, .int .u64 0] 25 (0, 0)) (by (with_reducible repeat (first | refine blk_drewN ?_ _ | refine blk_drew ?_ | refine blk_alloc ?_ _)); exact BK149.out) NB149_0.out (by simp)); have n3_ := Aside0.mk (KeepBut.trans (by repeat (first | (with_reducible first | exact HK.out | apply KeepBut.set_ | apply keep_drewN | apply keep_drew | apply keep_alloc | refine keep_far ?_ GW148.out _ | refine keep_far ?_ GW149.out _) | exact HK.out)) hk (.inl rfl)); have n4_ := Aside0.mk (hb); have n5_ := Aside0.mk (hi); clear HO_150000; clear BK148; clear BK149; clear HK; clear HB; clear HI0; have HO_150000 := n0_; have BK148 := n1_; have BK149 := n2_; have HK := n3_; have HB := n4_; have HI0 := n5_; clear n0_ n1_ n2_ n3_ n4_ n5_; (try clear hb); (try clear hb2); (try clear hk); (try clear hi); have hnb29 := NB149_148.out; have hnc29 := NB148_149.out; have hnb30 := NB149_0.out; have hnc30 := NB0_149.out; have hcz31_0 : w28.cell? ⟨gb149, 0, none⟩ = some (u150000) := (blk_cell BK149.out 0).trans rfl; have hcz31_1 : w28.cell? ⟨gb149, 1, none⟩ = some (.int .i64 0) := (blk_cell BK149.out 1).trans rfl; have hcz31_2 : w28.cell? ⟨gb149, 2, none⟩ = some (.int .i64 0) := (blk_cell BK149.out 2).trans rfl; have hcz31_3 : w28.cell? ⟨gb149, 3, none⟩ = some (.int .i64 0) := (blk_cell BK149.out 3).trans rfl; have hcz31_4 : w28.cell? ⟨gb149, 4, none⟩ = some (.int .i64 0) := (blk_cell BK149.out 4).trans rfl; have hcz31_5 : w28.cell? ⟨gb149, 5, none⟩ = some (.int .i64 0) := (blk_cell BK149.out 5).trans rfl; have hcz31_6 : w28.cell? ⟨gb149, 6, none⟩ = some (.int .i64 0) := (blk_cell BK149.out 6).trans rfl; have hcz31_7 : w28.cell? ⟨gb149, 7, none⟩ = some (.int .i64 0) := (blk_cell BK149.out 7).trans rfl; have hcz31_8 : w28.cell? ⟨gb149, 8, none⟩ = some (.int .i64 0) := (blk_cell BK149.out 8).trans rfl; have hcz31_9 : w28.cell? ⟨gb149, 9, none⟩ = some (.int .i64 0) := (blk_cell BK149.out 9).trans rfl; have hcz31_10 : w28.cell? ⟨gb149, 10, none⟩ = some (.int .i64 0) := (blk_cell BK149.out 10).trans rfl; have hcz31_11 : w28.cell? ⟨gb149, 11, none⟩ = some (.int .u64 0) := (blk_cell BK149.out 11).trans rfl; have hfz31_0 := blk_frozen BK149.out 0; have hfz31_1 := blk_frozen BK149.out 1; have hfz31_2 := blk_frozen BK149.out 2; have hfz31_3 := blk_frozen BK149.out 3; have hfz31_4 := blk_frozen BK149.out 4; have hfz31_5 := blk_frozen BK149.out 5; have hfz31_6 := blk_frozen BK149.out 6; have hfz31_7 := blk_frozen BK149.out 7; have hfz31_8 := blk_frozen BK149.out 8; have hfz31_9 := blk_frozen BK149.out 9; have hfz31_10 := blk_frozen BK149.out 10; have hfz31_11 := blk_frozen BK149.out 11) | ((with_reducible refine gate_callee (f := 22) rfl ?_); refine goesL_ (some 28) rfl rfl Try.func22 (by kernel_rfl) rfl #[.pointer (some ⟨g, 0, none⟩), .int .i64 3] rfl (by (try simp only [List.map_toArray, List.map_cons, List.map_nil]); first | done | rfl | (simp only [List.length_drop, List.length_take]; rfl)) ?_; (with_reducible refine (muleteerref40_Dice_Below.calls g t158 3 t159 t160 w0 _ ?side1 ?side2 A18.out).mono ?_); (case side1 => repeat (first | (with_reducible first | exact HI0.out | apply IsS32.alloc | apply IsS32.drewN | apply IsS32.drew | apply IsS32.set_0 | refine IsS32.far ?_ NB0_148.out _ | refine IsS32.far ?_ NB0_149.out _) | exact HI0.out)); (case side2 => repeat (first | (with_reducible first | exact HB.out | apply below_alloc | apply pw_below_drewN | apply below_drew1 | refine below_set ?_ (IsS32.ge HI0.out) | refine below_set ?_ GE148.out | refine below_set ?_ GE149.out) | exact HB.out)); rintro e w32 ⟨rfl, hi, hb, hk⟩; refine ⟨_, rfl, ?_⟩; have n0_ := Aside0.mk (Kd.R_mono (Kd.R_keep (IsS32.apart (show IsS32 w0 _ g t158 from by repeat (first | (with_reducible first | exact HI0.out | apply IsS32.alloc | apply IsS32.drewN | apply IsS32.drew | apply IsS32.set_0 | refine IsS32.far ?_ NB0_148.out _ | refine IsS32.far ?_ NB0_149.out _) | exact HI0.out)) (by (with_reducible repeat (first | apply Kd.R_alloc | apply Kd.R_drewN | apply Kd.R_drew)); exact (Kd.R_mono (Kd.R_far (p := ⟨gb149, 1, none⟩) (Kd.R_types HO_150000.out BK149.out (by decide)) (fun _ hk => hk.2) (.int .i64 (wrap64 (1 + t157)))) (fun _ h_ => h_.1))) (by decide)) hk (fun _ h => h.2)) (fun _ h => h.1)); have n1_ := Aside0.mk (KeepBut.blk hk (g' := gb148) (o := .cells #[.slice none 0 0, .int .i64 0, .int .i64 0, .int .i64 0, .int .i64 0, .int .i64 0, .int .i64 0, .int .i64 0, .int .i64 0, .int .i64 0, .int .i64 0, .int .u64 0] 25 (0, 0)) (by (with_reducible repeat (first | refine blk_drewN ?_ _ | refine blk_drew ?_ | refine blk_alloc ?_ _)); refine blk_far ?_ NB148_149.out _; (with_reducible repeat (first | refine blk_drewN ?_ _ | refine blk_drew ?_ | refine blk_alloc ?_ _)); exact BK148.out) NB148_0.out (by simp)); have n2_ := Aside0.mk (KeepBut.blk hk (g' := gb149) (o := .cells #[u150000, .int .i64 (wrap64 (1 + t157)), .int .i64 0, .int .i64 0, .int .i64 0, .int .i64 0, .int .i64 0, .int .i64 0, .int .i64 0, .int .i64 0, .int .i64 0, .int .u64 0] 25 (0, 0)) (by (with_reducible repeat (first | refine blk_drewN ?_ _ | refine blk_drew ?_ | refine blk_alloc ?_ _)); refine blk_put (cs := #[u150000, .int .i64 0, .int .i64 0, .int .i64 0, .int .i64 0, .int .i64 0, .int .i64 0, .int .i64 0, .int .i64 0, .int .i64 0, .int .i64 0, .int .u64 0]) ?_ 1 _ rfl; (with_reducible repeat (first | refine blk_drewN ?_ _ | refine blk_drew ?_ | refine blk_alloc ?_ _)); exact BK149.out) NB149_0.out (by simp)); have n3_ := Aside0.mk (KeepBut.trans (by repeat (first | (with_reducible first | exact HK.out | apply KeepBut.set_ | apply keep_drewN | apply keep_drew | apply keep_alloc | refine keep_far ?_ GW148.out _ | refine keep_far ?_ GW149.out _) | exact HK.out)) hk (.inl rfl)); have n4_ := Aside0.mk (hb); have n5_ := Aside0.mk (hi); clear HO_150000; clear BK148; clear BK149; clear HK; clear HB; clear HI0; have HO_150000 := n0_; have BK148 := n1_; have BK149 := n2_; have HK := n3_; have HB := n4_; have HI0 := n5_; clear n0_ n1_ n2_ n3_ n4_ n5_; (try clear hb); (try clear hb2); (try clear hk); (try clear hi); have hcz33_0 : w32.cell? ⟨gb149, 0, none⟩ = some (u150000) := (blk_cell BK149.out 0).trans rfl; have hcz33_1 : w32.cell? ⟨gb149, 1, none⟩ = some (.int .i64 (wrap64 (1 + t157))) := (blk_cell BK149.out 1).trans rfl; have hcz33_2 : w32.cell? ⟨gb149, 2, none⟩ = some (.int .i64 0) := (blk_cell BK149.out 2).trans rfl; have hcz33_3 : w32.cell? ⟨gb149, 3, none⟩ = some (.int .i64 0) := (blk_cell BK149.out 3).trans rfl; have hcz33_4 : w32.cell? ⟨gb149, 4, none⟩ = some (.int .i64 0) := (blk_cell BK149.out 4).trans rfl; have hcz33_5 : w32.cell? ⟨gb149, 5, none⟩ = some (.int .i64 0) := (blk_cell BK149.out 5).trans rfl; have hcz33_6 : w32.cell? ⟨gb149, 6, none⟩ = some (.int .i64 0) := (blk_cell BK149.out 6).trans rfl; have hcz33_7 : w32.cell? ⟨gb149, 7, none⟩ = some (.int .i64 0) := (blk_cell BK149.out 7).trans rfl; have hcz33_8 : w32.cell? ⟨gb149, 8, none⟩ = some (.int .i64 0) := (blk_cell BK149.out 8).trans rfl; have hcz33_9 : w32.cell? ⟨gb149, 9, none⟩ = some (.int .i64 0) := (blk_cell BK149.out 9).trans rfl; have hcz33_10 : w32.cell? ⟨gb149, 10, none⟩ = some (.int .i64 0) := (blk_cell BK149.out 10).trans rfl; have hcz33_11 : w32.cell? ⟨gb149, 11, none⟩ = some (.int .u64 0) := (blk_cell BK149.out 11).trans rfl; have hfz33_0 := blk_frozen BK149.out 0; have hfz33_1 := blk_frozen BK149.out 1; have hfz33_2 := blk_frozen BK149.out 2; have hfz33_3 := blk_frozen BK149.out 3; have hfz33_4 := blk_frozen BK149.out 4; have hfz33_5 := blk_frozen BK149.out 5; have hfz33_6 := blk_frozen BK149.out 6; have hfz33_7 := blk_frozen BK149.out 7; have hfz33_8 := blk_frozen BK149.out 8; have hfz33_9 := blk_frozen BK149.out 9; have hfz33_10 := blk_frozen BK149.out 10; have hfz33_11 := blk_frozen BK149.out 11) | ((with_reducible refine gate_callee (f := 22) rfl ?_); refine goesL_ (some 32) rfl rfl Try.func22 (by kernel_rfl) rfl #[.pointer (some ⟨g, 0, none⟩), .int .i64 5] rfl (by (try simp only [List.map_toArray, List.map_cons, List.map_nil]); first | done | rfl | (simp only [List.length_drop, List.length_take]; rfl)) ?_; (with_reducible refine (muleteerref40_Dice_Below.calls g t160 5 t161 t162 w0 _ ?side1 ?side2 A19.out).mono ?_); (case side1 => repeat (first | (with_reducible first | exact HI0.out | apply IsS32.alloc | apply IsS32.drewN | apply IsS32.drew | apply IsS32.set_0 | refine IsS32.far ?_ NB0_148.out _ | refine IsS32.far ?_ NB0_149.out _) | exact HI0.out)); (case side2 => repeat (first | (with_reducible first | exact HB.out | apply below_alloc | apply pw_below_drewN | apply below_drew1 | refine below_set ?_ (IsS32.ge HI0.out) | refine below_set ?_ GE148.out | refine below_set ?_ GE149.out) | exact HB.out)); rintro e w34 ⟨rfl, hi, hb, hk⟩; refine ⟨_, rfl, ?_⟩; have n0_ := Aside0.mk (Kd.R_mono (Kd.R_keep (IsS32.apart (show IsS32 w0 _ g t160 from by repeat (first | (with_reducible first | exact HI0.out | apply IsS32.alloc | apply IsS32.drewN | apply IsS32.drew | apply IsS32.set_0 | refine IsS32.far ?_ NB0_148.out _ | refine IsS32.far ?_ NB0_149.out _) | exact HI0.out)) (by (with_reducible repeat (first | apply Kd.R_alloc | apply Kd.R_drewN | apply Kd.R_drew)); exact (Kd.R_mono (Kd.R_far (p := ⟨gb149, 2, none⟩) (Kd.R_types HO_150000.out BK149.out (by decide)) (fun _ hk => hk.2) (.int .i64 (wrap64 (1 + t159)))) (fun _ h_ => h_.1))) (by decide)) hk (fun _ h => h.2)) (fun _ h => h.1)); have n1_ := Aside0.mk (KeepBut.blk hk (g' := gb148) (o := .cells #[.slice none 0 0, .int .i64 0, .int .i64 0, .int .i64 0, .int .i64 0, .int .i64 0, .int .i64 0, .int .i64 0, .int .i64 0, .int .i64 0, .int .i64 0, .int .u64 0] 25 (0, 0)) (by (with_reducible repeat (first | refine blk_drewN ?_ _ | refine blk_drew ?_ | refine blk_alloc ?_ _)); refine blk_far ?_ NB148_149.out _; (with_reducible repeat (first | refine blk_drewN ?_ _ | refine blk_drew ?_ | refine blk_alloc ?_ _)); exact BK148.out) NB148_0.out (by simp)); have n2_ := Aside0.mk (KeepBut.blk hk (g' := gb149) (o := .cells #[u150000, .int .i64 (wrap64 (1 + t157)), .int .i64 (wrap64 (1 + t159)), .int .i64 0, .int .i64 0, .int .i64 0, .int .i64 0, .int .i64 0, .int .i64 0, .int .i64 0, .int .i64 0, .int .u64 0] 25 (0, 0)) (by (with_reducible repeat (first | refine blk_drewN ?_ _ | refine blk_drew ?_ | refine blk_alloc ?_ _)); refine blk_put (cs := #[u150000, .int .i64 (wrap64 (1 + t157)), .int .i64 0, .int .i64 0, .int .i64 0, .int .i64 0, .int .i64 0, .int .i64 0, .int .i64 0, .int .i64 0, .int .i64 0, .int .u64 0]) ?_ 2 _ rfl; (with_reducible repeat (first | refine blk_drewN ?_ _ | refine blk_drew ?_ | refine blk_alloc ?_ _)); exact BK149.out) NB149_0.out (by simp)); have n3_ := Aside0.mk (KeepBut.trans (by repeat (first | (with_reducible first | exact HK.out | apply KeepBut.set_ | apply keep_drewN | apply keep_drew | apply keep_alloc | refine keep_far ?_ GW148.out _ | refine keep_far ?_ GW149.out _) | exact HK.out)) hk (.inl rfl)); have n4_ := Aside0.mk (hb); have n5_ := Aside0.mk (hi); clear HO_150000; clear BK148; clear BK149; clear HK; clear HB; clear HI0; have HO_150000 := n0_; have BK148 := n1_; have BK149 := n2_; have HK := n3_; have HB := n4_; have HI0 := n5_; clear n0_ n1_ n2_ n3_ n4_ n5_; (try clear hb); (try clear hb2); (try clear hk); (try clear hi); have hcz35_0 : w34.cell? ⟨gb149, 0, none⟩ = some (u150000) := (blk_cell BK149.out 0).trans rfl; have hcz35_1 : w34.cell? ⟨gb149, 1, none⟩ = some (.int .i64 (wrap64 (1 + t157))) := (blk_cell BK149.out 1).trans rfl; have hcz35_2 : w34.cell? ⟨gb149, 2, none⟩ = some (.int .i64 (wrap64 (1 + t159))) := (blk_cell BK149.out 2).trans rfl; have hcz35_3 : w34.cell? ⟨gb149, 3, none⟩ = some (.int .i64 0) := (blk_cell BK149.out 3).trans rfl; have hcz35_4 : w34.cell? ⟨gb149, 4, none⟩ = some (.int .i64 0) := (blk_cell BK149.out 4).trans rfl; have hcz35_5 : w34.cell? ⟨gb149, 5, none⟩ = some (.int .i64 0) := (blk_cell BK149.out 5).trans rfl; have hcz35_6 : w34.cell? ⟨gb149, 6, none⟩ = some (.int .i64 0) := (blk_cell BK149.out 6).trans rfl; have hcz35_7 : w34.cell? ⟨gb149, 7, none⟩ = some (.int .i64 0) := (blk_cell BK149.out 7).trans rfl; have hcz35_8 : w34.cell? ⟨gb149, 8, none⟩ = some (.int .i64 0) := (blk_cell BK149.out 8).trans rfl; have hcz35_9 : w34.cell? ⟨gb149, 9, none⟩ = some (.int .i64 0) := (blk_cell BK149.out 9).trans rfl; have hcz35_10 : w34.cell? ⟨gb149, 10, none⟩ = some (.int .i64 0) := (blk_cell BK149.out 10).trans rfl; have hcz35_11 : w34.cell? ⟨gb149, 11, none⟩ = some (.int .u64 0) := (blk_cell BK149.out 11).trans rfl; have hfz35_0 := blk_frozen BK149.out 0; have hfz35_1 := blk_frozen BK149.out 1; have hfz35_2 := blk_frozen BK149.out 2; have hfz35_3 := blk_frozen BK149.out 3; have hfz35_4 := blk_frozen BK149.out 4; have hfz35_5 := blk_frozen BK149.out 5; have hfz35_6 := blk_frozen BK149.out 6; have hfz35_7 := blk_frozen BK149.out 7; have hfz35_8 := blk_frozen BK149.out 8; have hfz35_9 := blk_frozen BK149.out 9; have hfz35_10 := blk_frozen BK149.out 10; have hfz35_11 := blk_frozen BK149.out 11) | ((with_reducible refine gate_callee (f := 22) rfl ?_); refine goesL_ (some 36) rfl rfl Try.func22 (by kernel_rfl) rfl #[.pointer (some ⟨g, 0, none⟩), .int .i64 5] rfl (by (try simp only [List.map_toArray, List.map_cons, List.map_nil]); first | done | rfl | (simp only [List.length_drop, List.length_take]; rfl)) ?_; (with_reducible refine (muleteerref40_Dice_Below.calls g t162 5 t163 t164 w0 _ ?side1 ?side2 A20.out).mono ?_); (case side1 => repeat (first | (with_reducible first | exact HI0.out | apply IsS32.alloc | apply IsS32.drewN | apply IsS32.drew | apply IsS32.set_0 | refine IsS32.far ?_ NB0_148.out _ | refine IsS32.far ?_ NB0_149.out _) | exact HI0.out)); (case side2 => repeat (first | (with_reducible first | exact HB.out | apply below_alloc | apply pw_below_drewN | apply below_drew1 | refine below_set ?_ (IsS32.ge HI0.out) | refine below_set ?_ GE148.out | refine below_set ?_ GE149.out) | exact HB.out)); rintro e w36 ⟨rfl, hi, hb, hk⟩; refine ⟨_, rfl, ?_⟩; have n0_ := Aside0.mk (Kd.R_mono (Kd.R_keep (IsS32.apart (show IsS32 w0 _ g t162 from by repeat (first | (with_reducible first | exact HI0.out | apply IsS32.alloc | apply IsS32.drewN | apply IsS32.drew | apply IsS32.set_0 | refine IsS32.far ?_ NB0_148.out _ | refine IsS32.far ?_ NB0_149.out _) | exact HI0.out)) (by (with_reducible repeat (first | apply Kd.R_alloc | apply Kd.R_drewN | apply Kd.R_drew)); exact (Kd.R_mono (Kd.R_far (p := ⟨gb149, 3, none⟩) (Kd.R_types HO_150000.out BK149.out (by decide)) (fun _ hk => hk.2) (.int .i64 (wrap64 (1 + t161)))) (fun _ h_ => h_.1))) (by decide)) hk (fun _ h => h.2)) (fun _ h => h.1)); have n1_ := Aside0.mk (KeepBut.blk hk (g' := gb148) (o := .cells #[.slice none 0 0, .int .i64 0, .int .i64 0, .int .i64 0, .int .i64 0, .int .i64 0, .int .i64 0, .int .i64 0, .int .i64 0, .int .i64 0, .int .i64 0, .int .u64 0] 25 (0, 0)) (by (with_reducible repeat (first | refine blk_drewN ?_ _ | refine blk_drew ?_ | refine blk_alloc ?_ _)); refine blk_far ?_ NB148_149.out _; (with_reducible repeat (first | refine blk_drewN ?_ _ | refine blk_drew ?_ | refine blk_alloc ?_ _)); exact BK148.out) NB148_0.out (by simp)); have n2_ := Aside0.mk (KeepBut.blk hk (g' := gb149) (o := .cells #[u150000, .int .i64 (wrap64 (1 + t157)), .int .i64 (wrap64 (1 + t159)), .int .i64 (wrap64 (1 + t161)), .int .i64 0, .int .i64 0, .int .i64 0, .int .i64 0, .int .i64 0, .int .i64 0, .int .i64 0, .int .u64 0] 25 (0, 0)) (by (with_reducible repeat (first | refine blk_drewN ?_ _ | refine blk_drew ?_ | refine blk_alloc ?_ _)); refine blk_put (cs := #[u150000, .int .i64 (wrap64 (1 + t157)), .int .i64 (wrap64 (1 + t159)), .int .i64 0, .int .i64 0, .int .i64 0, .int .i64 0, .int .i64 0, .int .i64 0, .int .i64 0, .int .i64 0, .int .u64 0]) ?_ 3 _ rfl; (with_reducible repeat (first | refine blk_drewN ?_ _ | refine blk_drew ?_ | refine blk_alloc ?_ _)); exact BK149.out) NB149_0.out (by simp)); have n3_ := Aside0.mk (KeepBut.trans (by repeat (first | (with_reducible first | exact HK.out | apply KeepBut.set_ | apply keep_drewN | apply keep_drew | apply keep_alloc | refine keep_far ?_ GW148.out _ | refine keep_far ?_ GW149.out _) | exact HK.out)) hk (.inl rfl)); have n4_ := Aside0.mk (hb); have n5_ := Aside0.mk (hi); clear HO_150000; clear BK148; clear BK149; clear HK; clear HB; clear HI0; have HO_150000 := n0_; have BK148 := n1_; have BK149 := n2_; have HK := n3_; have HB := n4_; have HI0 := n5_; clear n0_ n1_ n2_ n3_ n4_ n5_; (try clear hb); (try clear hb2); (try clear hk); (try clear hi); have hcz37_0 : w36.cell? ⟨gb149, 0, none⟩ = some (u150000) := (blk_cell BK149.out 0).trans rfl; have hcz37_1 : w36.cell? ⟨gb149, 1, none⟩ = some (.int .i64 (wrap64 (1 + t157))) := (blk_cell BK149.out 1).trans rfl; have hcz37_2 : w36.cell? ⟨gb149, 2, none⟩ = some (.int .i64 (wrap64 (1 + t159))) := (blk_cell BK149.out 2).trans rfl; have hcz37_3 : w36.cell? ⟨gb149, 3, none⟩ = some (.int .i64 (wrap64 (1 + t161))) := (blk_cell BK149.out 3).trans rfl; have hcz37_4 : w36.cell? ⟨gb149, 4, none⟩ = some (.int .i64 0) := (blk_cell BK149.out 4).trans rfl; have hcz37_5 : w36.cell? ⟨gb149, 5, none⟩ = some (.int .i64 0) := (blk_cell BK149.out 5).trans rfl; have hcz37_6 : w36.cell? ⟨gb149, 6, none⟩ = some (.int .i64 0) := (blk_cell BK149.out 6).trans rfl; have hcz37_7 : w36.cell? ⟨gb149, 7, none⟩ = some (.int .i64 0) := (blk_cell BK149.out 7).trans rfl; have hcz37_8 : w36.cell? ⟨gb149, 8, none⟩ = some (.int .i64 0) := (blk_cell BK149.out 8).trans rfl; have hcz37_9 : w36.cell? ⟨gb149, 9, none⟩ = some (.int .i64 0) := (blk_cell BK149.out 9).trans rfl; have hcz37_10 : w36.cell? ⟨gb149, 10, none⟩ = some (.int .i64 0) := (blk_cell BK149.out 10).trans rfl; have hcz37_11 : w36.cell? ⟨gb149, 11, none⟩ = some (.int .u64 0) := (blk_cell BK149.out 11).trans rfl; have hfz37_0 := blk_frozen BK149.out 0; have hfz37_1 := blk_frozen BK149.out 1; have hfz37_2 := blk_frozen BK149.out 2; have hfz37_3 := blk_frozen BK149.out 3; have hfz37_4 := blk_frozen BK149.out 4; have hfz37_5 := blk_frozen BK149.out 5; have hfz37_6 := blk_frozen BK149.out 6; have hfz37_7 := blk_frozen BK149.out 7; have hfz37_8 := blk_frozen BK149.out 8; have hfz37_9 := blk_frozen BK149.out 9; have hfz37_10 := blk_frozen BK149.out 10; have hfz37_11 := blk_frozen BK149.out 11) | ((with_reducible refine gate_callee (f := 22) rfl ?_); refine goesL_ (some 40) rfl rfl Try.func22 (by kernel_rfl) rfl #[.pointer (some ⟨g, 0, none⟩), .int .i64 3] rfl (by (try simp only [List.map_toArray, List.map_cons, List.map_nil]); first | done | rfl | (simp only [List.length_drop, List.length_take]; rfl)) ?_; (with_reducible refine (muleteerref40_Dice_Below.calls g t164 3 t165 t166 w0 _ ?side1 ?side2 A21.out).mono ?_); (case side1 => repeat (first | (with_reducible first | exact HI0.out | apply IsS32.alloc | apply IsS32.drewN | apply IsS32.drew | apply IsS32.set_0 | refine IsS32.far ?_ NB0_148.out _ | refine IsS32.far ?_ NB0_149.out _) | exact HI0.out)); (case side2 => repeat (first | (with_reducible first | exact HB.out | apply below_alloc | apply pw_below_drewN | apply below_drew1 | refine below_set ?_ (IsS32.ge HI0.out) | refine below_set ?_ GE148.out | refine below_set ?_ GE149.out) | exact HB.out)); rintro e w38 ⟨rfl, hi, hb, hk⟩; refine ⟨_, rfl, ?_⟩; have n0_ := Aside0.mk (Kd.R_mono (Kd.R_keep (IsS32.apart (show IsS32 w0 _ g t164 from by repeat (first | (with_reducible first | exact HI0.out | apply IsS32.alloc | apply IsS32.drewN | apply IsS32.drew | apply IsS32.set_0 | refine IsS32.far ?_ NB0_148.out _ | refine IsS32.far ?_ NB0_149.out _) | exact HI0.out)) (by (with_reducible repeat (first | apply Kd.R_alloc | apply Kd.R_drewN | apply Kd.R_drew)); exact (Kd.R_mono (Kd.R_far (p := ⟨gb149, 4, none⟩) (Kd.R_types HO_150000.out BK149.out (by decide)) (fun _ hk => hk.2) (.int .i64 (wrap64 (1 + t163)))) (fun _ h_ => h_.1))) (by decide)) hk (fun _ h => h.2)) (fun _ h => h.1)); have n1_ := Aside0.mk (KeepBut.blk hk (g' := gb148) (o := .cells #[.slice none 0 0, .int .i64 0, .int .i64 0, .int .i64 0, .int .i64 0, .int .i64 0, .int .i64 0, .int .i64 0, .int .i64 0, .int .i64 0, .int .i64 0, .int .u64 0] 25 (0, 0)) (by (with_reducible repeat (first | refine blk_drewN ?_ _ | refine blk_drew ?_ | refine blk_alloc ?_ _)); refine blk_far ?_ NB148_149.out _; (with_reducible repeat (first | refine blk_drewN ?_ _ | refine blk_drew ?_ | refine blk_alloc ?_ _)); exact BK148.out) NB148_0.out (by simp)); have n2_ := Aside0.mk (KeepBut.blk hk (g' := gb149) (o := .cells #[u150000, .int .i64 (wrap64 (1 + t157)), .int .i64 (wrap64 (1 + t159)), .int .i64 (wrap64 (1 + t161)), .int .i64 (wrap64 (1 + t163)), .int .i64 0, .int .i64 0, .int .i64 0, .int .i64 0, .int .i64 0, .int .i64 0, .int .u64 0] 25 (0, 0)) (by (with_reducible repeat (first | refine blk_drewN ?_ _ | refine blk_drew ?_ | refine blk_alloc ?_ _)); refine blk_put (cs := #[u150000, .int .i64 (wrap64 (1 + t157)), .int .i64 (wrap64 (1 + t159)), .int .i64 (wrap64 (1 + t161)), .int .i64 0, .int .i64 0, .int .i64 0, .int .i64 0, .int .i64 0, .int .i64 0, .int .i64 0, .int .u64 0]) ?_ 4 _ rfl; (with_reducible repeat (first | refine blk_drewN ?_ _ | refine blk_drew ?_ | refine blk_alloc ?_ _)); exact BK149.out) NB149_0.out (by simp)); have n3_ := Aside0.mk (KeepBut.trans (by repeat (first | (with_reducible first | exact HK.out | apply KeepBut.set_ | apply keep_drewN | apply keep_drew | apply keep_alloc | refine keep_far ?_ GW148.out _ | refine keep_far ?_ GW149.out _) | exact HK.out)) hk (.inl rfl)); have n4_ := Aside0.mk (hb); have n5_ := Aside0.mk (hi); clear HO_150000; clear BK148; clear BK149; clear HK; clear HB; clear HI0; have HO_150000 := n0_; have BK148 := n1_; have BK149 := n2_; have HK := n3_; have HB := n4_; have HI0 := n5_; clear n0_ n1_ n2_ n3_ n4_ n5_; (try clear hb); (try clear hb2); (try clear hk); (try clear hi); have hcz39_0 : w38.cell? ⟨gb149, 0, none⟩ = some (u150000) := (blk_cell BK149.out 0).trans rfl; have hcz39_1 : w38.cell? ⟨gb149, 1, none⟩ = some (.int .i64 (wrap64 (1 + t157))) := (blk_cell BK149.out 1).trans rfl; have hcz39_2 : w38.cell? ⟨gb149, 2, none⟩ = some (.int .i64 (wrap64 (1 + t159))) := (blk_cell BK149.out 2).trans rfl; have hcz39_3 : w38.cell? ⟨gb149, 3, none⟩ = some (.int .i64 (wrap64 (1 + t161))) := (blk_cell BK149.out 3).trans rfl; have hcz39_4 : w38.cell? ⟨gb149, 4, none⟩ = some (.int .i64 (wrap64 (1 + t163))) := (blk_cell BK149.out 4).trans rfl; have hcz39_5 : w38.cell? ⟨gb149, 5, none⟩ = some (.int .i64 0) := (blk_cell BK149.out 5).trans rfl; have hcz39_6 : w38.cell? ⟨gb149, 6, none⟩ = some (.int .i64 0) := (blk_cell BK149.out 6).trans rfl; have hcz39_7 : w38.cell? ⟨gb149, 7, none⟩ = some (.int .i64 0) := (blk_cell BK149.out 7).trans rfl; have hcz39_8 : w38.cell? ⟨gb149, 8, none⟩ = some (.int .i64 0) := (blk_cell BK149.out 8).trans rfl; have hcz39_9 : w38.cell? ⟨gb149, 9, none⟩ = some (.int .i64 0) := (blk_cell BK149.out 9).trans rfl; have hcz39_10 : w38.cell? ⟨gb149, 10, none⟩ = some (.int .i64 0) := (blk_cell BK149.out 10).trans rfl; have hcz39_11 : w38.cell? ⟨gb149, 11, none⟩ = some (.int .u64 0) := (blk_cell BK149.out 11).trans rfl; have hfz39_0 := blk_frozen BK149.out 0; have hfz39_1 := blk_frozen BK149.out 1; have hfz39_2 := blk_frozen BK149.out 2; have hfz39_3 := blk_frozen BK149.out 3; have hfz39_4 := blk_frozen BK149.out 4; have hfz39_5 := blk_frozen BK149.out 5; have hfz39_6 := blk_frozen BK149.out 6; have hfz39_7 := blk_frozen BK149.out 7; have hfz39_8 := blk_frozen BK149.out 8; have hfz39_9 := blk_frozen BK149.out 9; have hfz39_10 := blk_frozen BK149.out 10; have hfz39_11 := blk_frozen BK149.out 11) | ((with_reducible refine gate_callee (f := 22) rfl ?_); refine goesL_ (some 44) rfl rfl Try.func22 (by kernel_rfl) rfl #[.pointer (some ⟨g, 0, none⟩), .int .i64 3] rfl (by (try simp only [List.map_toArray, List.map_cons, List.map_nil]); first | done | rfl | (simp only [List.length_drop, List.length_take]; rfl)) ?_; (with_reducible refine (muleteerref40_Dice_Below.calls g t166 3 t167 t168 w0 _ ?side1 ?side2 A22.out).mono ?_); (case side1 => repeat (first | (with_reducible first | exact HI0.out | apply IsS32.alloc | apply IsS32.drewN | apply IsS32.drew | apply IsS32.set_0 | refine IsS32.far ?_ NB0_148.out _ | refine IsS32.far ?_ NB0_149.out _) | exact HI0.out)); (case side2 => repeat (first | (with_reducible first | exact HB.out | apply below_alloc | apply pw_below_drewN | apply below_drew1 | refine below_set ?_ (IsS32.ge HI0.out) | refine below_set ?_ GE148.out | refine below_set ?_ GE149.out) | exact HB.out)); rintro e w40 ⟨rfl, hi, hb, hk⟩; refine ⟨_, rfl, ?_⟩; have n0_ := Aside0.mk (Kd.R_mono (Kd.R_keep (IsS32.apart (show IsS32 w0 _ g t166 from by repeat (first | (with_reducible first | exact HI0.out | apply IsS32.alloc | apply IsS32.drewN | apply IsS32.drew | apply IsS32.set_0 | refine IsS32.far ?_ NB0_148.out _ | refine IsS32.far ?_ NB0_149.out _) | exact HI0.out)) (by (with_reducible repeat (first | apply Kd.R_alloc | apply Kd.R_drewN | apply Kd.R_drew)); exact (Kd.R_mono (Kd.R_far (p := ⟨gb149, 5, none⟩) (Kd.R_types HO_150000.out BK149.out (by decide)) (fun _ hk => hk.2) (.int .i64 (wrap64 (1 + t165)))) (fun _ h_ => h_.1))) (by decide)) hk (fun _ h => h.2)) (fun _ h => h.1)); have n1_ := Aside0.mk (KeepBut.blk hk (g' := gb148) (o := .cells #[.slice none 0 0, .int .i64 0, .int .i64 0, .int .i64 0, .int .i64 0, .int .i64 0, .int .i64 0, .int .i64 0, .int .i64 0, .int .i64 0, .int .i64 0, .int .u64 0] 25 (0, 0)) (by (with_reducible repeat (first | refine blk_drewN ?_ _ | refine blk_drew ?_ | refine blk_alloc ?_ _)); refine blk_far ?_ NB148_149.out _; (with_reducible repeat (first | refine blk_drewN ?_ _ | refine blk_drew ?_ | refine blk_alloc ?_ _)); exact BK148.out) NB148_0.out (by simp)); have n2_ := Aside0.mk (KeepBut.blk hk (g' := gb149) (o := .cells #[u150000, .int .i64 (wrap64 (1 + t157)), .int .i64 (wrap64 (1 + t159)), .int .i64 (wrap64 (1 + t161)), .int .i64 (wrap64 (1 + t163)), .int .i64 (wrap64 (1 + t165)), .int .i64 0, .int .i64 0, .int .i64 0, .int .i64 0, .int .i64 0, .int .u64 0] 25 (0, 0)) (by (with_reducible repeat (first | refine blk_drewN ?_ _ | refine blk_drew ?_ | refine blk_alloc ?_ _)); refine blk_put (cs := #[u150000, .int .i64 (wrap64 (1 + t157)), .int .i64 (wrap64 (1 + t159)), .int .i64 (wrap64 (1 + t161)), .int .i64 (wrap64 (1 + t163)), .int .i64 0, .int .i64 0, .int .i64 0, .int .i64 0, .int .i64 0, .int .i64 0, .int .u64 0]) ?_ 5 _ rfl; (with_reducible repeat (first | refine blk_drewN ?_ _ | refine blk_drew ?_ | refine blk_alloc ?_ _)); exact BK149.out) NB149_0.out (by simp)); have n3_ := Aside0.mk (KeepBut.trans (by repeat (first | (with_reducible first | exact HK.out | apply KeepBut.set_ | apply keep_drewN | apply keep_drew | apply keep_alloc | refine keep_far ?_ GW148.out _ | refine keep_far ?_ GW149.out _) | exact HK.out)) hk (.inl rfl)); have n4_ := Aside0.mk (hb); have n5_ := Aside0.mk (hi); clear HO_150000; clear BK148; clear BK149; clear HK; clear HB; clear HI0; have HO_150000 := n0_; have BK148 := n1_; have BK149 := n2_; have HK := n3_; have HB := n4_; have HI0 := n5_; clear n0_ n1_ n2_ n3_ n4_ n5_; (try clear hb); (try clear hb2); (try clear hk); (try clear hi); have hcz41_0 : w40.cell? ⟨gb149, 0, none⟩ = some (u150000) := (blk_cell BK149.out 0).trans rfl; have hcz41_1 : w40.cell? ⟨gb149, 1, none⟩ = some (.int .i64 (wrap64 (1 + t157))) := (blk_cell BK149.out 1).trans rfl; have hcz41_2 : w40.cell? ⟨gb149, 2, none⟩ = some (.int .i64 (wrap64 (1 + t159))) := (blk_cell BK149.out 2).trans rfl; have hcz41_3 : w40.cell? ⟨gb149, 3, none⟩ = some (.int .i64 (wrap64 (1 + t161))) := (blk_cell BK149.out 3).trans rfl; have hcz41_4 : w40.cell? ⟨gb149, 4, none⟩ = some (.int .i64 (wrap64 (1 + t163))) := (blk_cell BK149.out 4).trans rfl; have hcz41_5 : w40.cell? ⟨gb149, 5, none⟩ = some (.int .i64 (wrap64 (1 + t165))) := (blk_cell BK149.out 5).trans rfl; have hcz41_6 : w40.cell? ⟨gb149, 6, none⟩ = some (.int .i64 0) := (blk_cell BK149.out 6).trans rfl; have hcz41_7 : w40.cell? ⟨gb149, 7, none⟩ = some (.int .i64 0) := (blk_cell BK149.out 7).trans rfl; have hcz41_8 : w40.cell? ⟨gb149, 8, none⟩ = some (.int .i64 0) := (blk_cell BK149.out 8).trans rfl; have hcz41_9 : w40.cell? ⟨gb149, 9, none⟩ = some (.int .i64 0) := (blk_cell BK149.out 9).trans rfl; have hcz41_10 : w40.cell? ⟨gb149, 10, none⟩ = some (.int .i64 0) := (blk_cell BK149.out 10).trans rfl; have hcz41_11 : w40.cell? ⟨gb149, 11, none⟩ = some (.int .u64 0) := (blk_cell BK149.out 11).trans rfl; have hfz41_0 := blk_frozen BK149.out 0; have hfz41_1 := blk_frozen BK149.out 1; have hfz41_2 := blk_frozen BK149.out 2; have hfz41_3 := blk_frozen BK149.out 3; have hfz41_4 := blk_frozen BK149.out 4; have hfz41_5 := blk_frozen BK149.out 5; have hfz41_6 := blk_frozen BK149.out 6; have hfz41_7 := blk_frozen BK149.out 7; have hfz41_8 := blk_frozen BK149.out 8; have hfz41_9 := blk_frozen BK149.out 9; have hfz41_10 := blk_frozen BK149.out 10; have hfz41_11 := blk_frozen BK149.out 11) | ((with_reducible refine gate_callee (f := 22) rfl ?_); refine goesL_ (some 48) rfl rfl Try.func22 (by kernel_rfl) rfl #[.pointer (some ⟨g, 0, none⟩), .int .i64 2] rfl (by (try simp only [List.map_toArray, List.map_cons, List.map_nil]); first | done | rfl | (simp only [List.length_drop, List.length_take]; rfl)) ?_; (with_reducible refine (muleteerref40_Dice_Below.calls g t168 2 t169 t170 w0 _ ?side1 ?side2 A23.out).mono ?_); (case side1 => repeat (first | (with_reducible first | exact HI0.out | apply IsS32.alloc | apply IsS32.drewN | apply IsS32.drew | apply IsS32.set_0 | refine IsS32.far ?_ NB0_148.out _ | refine IsS32.far ?_ NB0_149.out _) | exact HI0.out)); (case side2 => repeat (first | (with_reducible first | exact HB.out | apply below_alloc | apply pw_below_drewN | apply below_drew1 | refine below_set ?_ (IsS32.ge HI0.out) | refine below_set ?_ GE148.out | refine below_set ?_ GE149.out) | exact HB.out)); rintro e w42 ⟨rfl, hi, hb, hk⟩; refine ⟨_, rfl, ?_⟩; have n0_ := Aside0.mk (Kd.R_mono (Kd.R_keep (IsS32.apart (show IsS32 w0 _ g t168 from by repeat (first | (with_reducible first | exact HI0.out | apply IsS32.alloc | apply IsS32.drewN | apply IsS32.drew | apply IsS32.set_0 | refine IsS32.far ?_ NB0_148.out _ | refine IsS32.far ?_ NB0_149.out _) | exact HI0.out)) (by (with_reducible repeat (first | apply Kd.R_alloc | apply Kd.R_drewN | apply Kd.R_drew)); exact (Kd.R_mono (Kd.R_far (p := ⟨gb149, 6, none⟩) (Kd.R_types HO_150000.out BK149.out (by decide)) (fun _ hk => hk.2) (.int .i64 (wrap64 (1 + t167)))) (fun _ h_ => h_.1))) (by decide)) hk (fun _ h => h.2)) (fun _ h => h.1)); have n1_ := Aside0.mk (KeepBut.blk hk (g' := gb148) (o := .cells #[.slice none 0 0, .int .i64 0, .int .i64 0, .int .i64 0, .int .i64 0, .int .i64 0, .int .i64 0, .int .i64 0, .int .i64 0, .int .i64 0, .int .i64 0, .int .u64 0] 25 (0, 0)) (by (with_reducible repeat (first | refine blk_drewN ?_ _ | refine blk_drew ?_ | refine blk_alloc ?_ _)); refine blk_far ?_ NB148_149.out _; (with_reducible repeat (first | refine blk_drewN ?_ _ | refine blk_drew ?_ | refine blk_alloc ?_ _)); exact BK148.out) NB148_0.out (by simp)); have n2_ := Aside0.mk (KeepBut.blk hk (g' := gb149) (o := .cells #[u150000, .int .i64 (wrap64 (1 + t157)), .int .i64 (wrap64 (1 + t159)), .int .i64 (wrap64 (1 + t161)), .int .i64 (wrap64 (1 + t163)), .int .i64 (wrap64 (1 + t165)), .int .i64 (wrap64 (1 + t167)), .int .i64 0, .int .i64 0, .int .i64 0, .int .i64 0, .int .u64 0] 25 (0, 0)) (by (with_reducible repeat (first | refine blk_drewN ?_ _ | refine blk_drew ?_ | refine blk_alloc ?_ _)); refine blk_put (cs := #[u150000, .int .i64 (wrap64 (1 + t157)), .int .i64 (wrap64 (1 + t159)), .int .i64 (wrap64 (1 + t161)), .int .i64 (wrap64 (1 + t163)), .int .i64 (wrap64 (1 + t165)), .int .i64 0, .int .i64 0, .int .i64 0, .int .i64 0, .int .i64 0, .int .u64 0]) ?_ 6 _ rfl; (with_reducible repeat (first | refine blk_drewN ?_ _ | refine blk_drew ?_ | refine blk_alloc ?_ _)); exact BK149.out) NB149_0.out (by simp)); have n3_ := Aside0.mk (KeepBut.trans (by repeat (first | (with_reducible first | exact HK.out | apply KeepBut.set_ | apply keep_drewN | apply keep_drew | apply keep_alloc | refine keep_far ?_ GW148.out _ | refine keep_far ?_ GW149.out _) | exact HK.out)) hk (.inl rfl)); have n4_ := Aside0.mk (hb); have n5_ := Aside0.mk (hi); clear HO_150000; clear BK148; clear BK149; clear HK; clear HB; clear HI0; have HO_150000 := n0_; have BK148 := n1_; have BK149 := n2_; have HK := n3_; have HB := n4_; have HI0 := n5_; clear n0_ n1_ n2_ n3_ n4_ n5_; (try clear hb); (try clear hb2); (try clear hk); (try clear hi); have hcz43_0 : w42.cell? ⟨gb149, 0, none⟩ = some (u150000) := (blk_cell BK149.out 0).trans rfl; have hcz43_1 : w42.cell? ⟨gb149, 1, none⟩ = some (.int .i64 (wrap64 (1 + t157))) := (blk_cell BK149.out 1).trans rfl; have hcz43_2 : w42.cell? ⟨gb149, 2, none⟩ = some (.int .i64 (wrap64 (1 + t159))) := (blk_cell BK149.out 2).trans rfl; have hcz43_3 : w42.cell? ⟨gb149, 3, none⟩ = some (.int .i64 (wrap64 (1 + t161))) := (blk_cell BK149.out 3).trans rfl; have hcz43_4 : w42.cell? ⟨gb149, 4, none⟩ = some (.int .i64 (wrap64 (1 + t163))) := (blk_cell BK149.out 4).trans rfl; have hcz43_5 : w42.cell? ⟨gb149, 5, none⟩ = some (.int .i64 (wrap64 (1 + t165))) := (blk_cell BK149.out 5).trans rfl; have hcz43_6 : w42.cell? ⟨gb149, 6, none⟩ = some (.int .i64 (wrap64 (1 + t167))) := (blk_cell BK149.out 6).trans rfl; have hcz43_7 : w42.cell? ⟨gb149, 7, none⟩ = some (.int .i64 0) := (blk_cell BK149.out 7).trans rfl; have hcz43_8 : w42.cell? ⟨gb149, 8, none⟩ = some (.int .i64 0) := (blk_cell BK149.out 8).trans rfl; have hcz43_9 : w42.cell? ⟨gb149, 9, none⟩ = some (.int .i64 0) := (blk_cell BK149.out 9).trans rfl; have hcz43_10 : w42.cell? ⟨gb149, 10, none⟩ = some (.int .i64 0) := (blk_cell BK149.out 10).trans rfl; have hcz43_11 : w42.cell? ⟨gb149, 11, none⟩ = some (.int .u64 0) := (blk_cell BK149.out 11).trans rfl; have hfz43_0 := blk_frozen BK149.out 0; have hfz43_1 := blk_frozen BK149.out 1; have hfz43_2 := blk_frozen BK149.out 2; have hfz43_3 := blk_frozen BK149.out 3; have hfz43_4 := blk_frozen BK149.out 4; have hfz43_5 := blk_frozen BK149.out 5; have hfz43_6 := blk_frozen BK149.out 6; have hfz43_7 := blk_frozen BK149.out 7; have hfz43_8 := blk_frozen BK149.out 8; have hfz43_9 := blk_frozen BK149.out 9; have hfz43_10 := blk_frozen BK149.out 10; have hfz43_11 := blk_frozen BK149.out 11) | ((with_reducible refine gate_callee (f := 22) rfl ?_); refine goesL_ (some 52) rfl rfl Try.func22 (by kernel_rfl) rfl #[.pointer (some ⟨g, 0, none⟩), .int .i64 4] rfl (by (try simp only [List.map_toArray, List.map_cons, List.map_nil]); first | done | rfl | (simp only [List.length_drop, List.length_take]; rfl)) ?_; (with_reducible refine (muleteerref40_Dice_Below.calls g t170 4 t171 t172 w0 _ ?side1 ?side2 A24.out).mono ?_); (case side1 => repeat (first | (with_reducible first | exact HI0.out | apply IsS32.alloc | apply IsS32.drewN | apply IsS32.drew | apply IsS32.set_0 | refine IsS32.far ?_ NB0_148.out _ | refine IsS32.far ?_ NB0_149.out _) | exact HI0.out)); (case side2 => repeat (first | (with_reducible first | exact HB.out | apply below_alloc | apply pw_below_drewN | apply below_drew1 | refine below_set ?_ (IsS32.ge HI0.out) | refine below_set ?_ GE148.out | refine below_set ?_ GE149.out) | exact HB.out)); rintro e w44 ⟨rfl, hi, hb, hk⟩; refine ⟨_, rfl, ?_⟩; have n0_ := Aside0.mk (Kd.R_mono (Kd.R_keep (IsS32.apart (show IsS32 w0 _ g t170 from by repeat (first | (with_reducible first | exact HI0.out | apply IsS32.alloc | apply IsS32.drewN | apply IsS32.drew | apply IsS32.set_0 | refine IsS32.far ?_ NB0_148.out _ | refine IsS32.far ?_ NB0_149.out _) | exact HI0.out)) (by (with_reducible repeat (first | apply Kd.R_alloc | apply Kd.R_drewN | apply Kd.R_drew)); exact (Kd.R_mono (Kd.R_far (p := ⟨gb149, 7, none⟩) (Kd.R_types HO_150000.out BK149.out (by decide)) (fun _ hk => hk.2) (.int .i64 (wrap64 (1 + t169)))) (fun _ h_ => h_.1))) (by decide)) hk (fun _ h => h.2)) (fun _ h => h.1)); have n1_ := Aside0.mk (KeepBut.blk hk (g' := gb148) (o := .cells #[.slice none 0 0, .int .i64 0, .int .i64 0, .int .i64 0, .int .i64 0, .int .i64 0, .int .i64 0, .int .i64 0, .int .i64 0, .int .i64 0, .int .i64 0, .int .u64 0] 25 (0, 0)) (by (with_reducible repeat (first | refine blk_drewN ?_ _ | refine blk_drew ?_ | refine blk_alloc ?_ _)); refine blk_far ?_ NB148_149.out _; (with_reducible repeat (first | refine blk_drewN ?_ _ | refine blk_drew ?_ | refine blk_alloc ?_ _)); exact BK148.out) NB148_0.out (by simp)); have n2_ := Aside0.mk (KeepBut.blk hk (g' := gb149) (o := .cells #[u150000, .int .i64 (wrap64 (1 + t157)), .int .i64 (wrap64 (1 + t159)), .int .i64 (wrap64 (1 + t161)), .int .i64 (wrap64 (1 + t163)), .int .i64 (wrap64 (1 + t165)), .int .i64 (wrap64 (1 + t167)), .int .i64 (wrap64 (1 + t169)), .int .i64 0, .int .i64 0, .int .i64 0, .int .u64 0] 25 (0, 0)) (by (with_reducible repeat (first | refine blk_drewN ?_ _ | refine blk_drew ?_ | refine blk_alloc ?_ _)); refine blk_put (cs := #[u150000, .int .i64 (wrap64 (1 + t157)), .int .i64 (wrap64 (1 + t159)), .int .i64 (wrap64 (1 + t161)), .int .i64 (wrap64 (1 + t163)), .int .i64 (wrap64 (1 + t165)), .int .i64 (wrap64 (1 + t167)), .int .i64 0, .int .i64 0, .int .i64 0, .int .i64 0, .int .u64 0]) ?_ 7 _ rfl; (with_reducible repeat (first | refine blk_drewN ?_ _ | refine blk_drew ?_ | refine blk_alloc ?_ _)); exact BK149.out) NB149_0.out (by simp)); have n3_ := Aside0.mk (KeepBut.trans (by repeat (first | (with_reducible first | exact HK.out | apply KeepBut.set_ | apply keep_drewN | apply keep_drew | apply keep_alloc | refine keep_far ?_ GW148.out _ | refine keep_far ?_ GW149.out _) | exact HK.out)) hk (.inl rfl)); have n4_ := Aside0.mk (hb); have n5_ := Aside0.mk (hi); clear HO_150000; clear BK148; clear BK149; clear HK; clear HB; clear HI0; have HO_150000 := n0_; have BK148 := n1_; have BK149 := n2_; have HK := n3_; have HB := n4_; have HI0 := n5_; clear n0_ n1_ n2_ n3_ n4_ n5_; (try clear hb); (try clear hb2); (try clear hk); (try clear hi); have hcz45_0 : w44.cell? ⟨gb149, 0, none⟩ = some (u150000) := (blk_cell BK149.out 0).trans rfl; have hcz45_1 : w44.cell? ⟨gb149, 1, none⟩ = some (.int .i64 (wrap64 (1 + t157))) := (blk_cell BK149.out 1).trans rfl; have hcz45_2 : w44.cell? ⟨gb149, 2, none⟩ = some (.int .i64 (wrap64 (1 + t159))) := (blk_cell BK149.out 2).trans rfl; have hcz45_3 : w44.cell? ⟨gb149, 3, none⟩ = some (.int .i64 (wrap64 (1 + t161))) := (blk_cell BK149.out 3).trans rfl; have hcz45_4 : w44.cell? ⟨gb149, 4, none⟩ = some (.int .i64 (wrap64 (1 + t163))) := (blk_cell BK149.out 4).trans rfl; have hcz45_5 : w44.cell? ⟨gb149, 5, none⟩ = some (.int .i64 (wrap64 (1 + t165))) := (blk_cell BK149.out 5).trans rfl; have hcz45_6 : w44.cell? ⟨gb149, 6, none⟩ = some (.int .i64 (wrap64 (1 + t167))) := (blk_cell BK149.out 6).trans rfl; have hcz45_7 : w44.cell? ⟨gb149, 7, none⟩ = some (.int .i64 (wrap64 (1 + t169))) := (blk_cell BK149.out 7).trans rfl; have hcz45_8 : w44.cell? ⟨gb149, 8, none⟩ = some (.int .i64 0) := (blk_cell BK149.out 8).trans rfl; have hcz45_9 : w44.cell? ⟨gb149, 9, none⟩ = some (.int .i64 0) := (blk_cell BK149.out 9).trans rfl; have hcz45_10 : w44.cell? ⟨gb149, 10, none⟩ = some (.int .i64 0) := (blk_cell BK149.out 10).trans rfl; have hcz45_11 : w44.cell? ⟨gb149, 11, none⟩ = some (.int .u64 0) := (blk_cell BK149.out 11).trans rfl; have hfz45_0 := blk_frozen BK149.out 0; have hfz45_1 := blk_frozen BK149.out 1; have hfz45_2 := blk_frozen BK149.out 2; have hfz45_3 := blk_frozen BK149.out 3; have hfz45_4 := blk_frozen BK149.out 4; have hfz45_5 := blk_frozen BK149.out 5; have hfz45_6 := blk_frozen BK149.out 6; have hfz45_7 := blk_frozen BK149.out 7; have hfz45_8 := blk_frozen BK149.out 8; have hfz45_9 := blk_frozen BK149.out 9; have hfz45_10 := blk_frozen BK149.out 10; have hfz45_11 := blk_frozen BK149.out 11) | ((with_reducible refine gate_callee (f := 22) rfl ?_); refine goesL_ (some 56) rfl rfl Try.func22 (by kernel_rfl) rfl #[.pointer (some ⟨g, 0, none⟩), .int .i64 5] rfl (by (try simp only [List.map_toArray, List.map_cons, List.map_nil]); first | done | rfl | (simp only [List.length_drop, List.length_take]; rfl)) ?_; (with_reducible refine (muleteerref40_Dice_Below.calls g t172 5 t173 t174 w0 _ ?side1 ?side2 A25.out).mono ?_); (case side1 => repeat (first | (with_reducible first | exact HI0.out | apply IsS32.alloc | apply IsS32.drewN | apply IsS32.drew | apply IsS32.set_0 | refine IsS32.far ?_ NB0_148.out _ | refine IsS32.far ?_ NB0_149.out _) | exact HI0.out)); (case side2 => repeat (first | (with_reducible first | exact HB.out | apply below_alloc | apply pw_below_drewN | apply below_drew1 | refine below_set ?_ (IsS32.ge HI0.out) | refine below_set ?_ GE148.out | refine below_set ?_ GE149.out) | exact HB.out)); rintro e w46 ⟨rfl, hi, hb, hk⟩; refine ⟨_, rfl, ?_⟩; have n0_ := Aside0.mk (Kd.R_mono (Kd.R_keep (IsS32.apart (show IsS32 w0 _ g t172 from by repeat (first | (with_reducible first | exact HI0.out | apply IsS32.alloc | apply IsS32.drewN | apply IsS32.drew | apply IsS32.set_0 | refine IsS32.far ?_ NB0_148.out _ | refine IsS32.far ?_ NB0_149.out _) | exact HI0.out)) (by (with_reducible repeat (first | apply Kd.R_alloc | apply Kd.R_drewN | apply Kd.R_drew)); exact (Kd.R_mono (Kd.R_far (p := ⟨gb149, 8, none⟩) (Kd.R_types HO_150000.out BK149.out (by decide)) (fun _ hk => hk.2) (.int .i64 (wrap64 (1 + t171)))) (fun _ h_ => h_.1))) (by decide)) hk (fun _ h => h.2)) (fun _ h => h.1)); have n1_ := Aside0.mk (KeepBut.blk hk (g' := gb148) (o := .cells #[.slice none 0 0, .int .i64 0, .int .i64 0, .int .i64 0, .int .i64 0, .int .i64 0, .int .i64 0, .int .i64 0, .int .i64 0, .int .i64 0, .int .i64 0, .int .u64 0] 25 (0, 0)) (by (with_reducible repeat (first | refine blk_drewN ?_ _ | refine blk_drew ?_ | refine blk_alloc ?_ _)); refine blk_far ?_ NB148_149.out _; (with_reducible repeat (first | refine blk_drewN ?_ _ | refine blk_drew ?_ | refine blk_alloc ?_ _)); exact BK148.out) NB148_0.out (by simp)); have n2_ := Aside0.mk (KeepBut.blk hk (g' := gb149) (o := .cells #[u150000, .int .i64 (wrap64 (1 + t157)), .int .i64 (wrap64 (1 + t159)), .int .i64 (wrap64 (1 + t161)), .int .i64 (wrap64 (1 + t163)), .int .i64 (wrap64 (1 + t165)), .int .i64 (wrap64 (1 + t167)), .int .i64 (wrap64 (1 + t169)), .int .i64 (wrap64 (1 + t171)), .int .i64 0, .int .i64 0, .int .u64 0] 25 (0, 0)) (by (with_reducible repeat (first | refine blk_drewN ?_ _ | refine blk_drew ?_ | refine blk_alloc ?_ _)); refine blk_put (cs := #[u150000, .int .i64 (wrap64 (1 + t157)), .int .i64 (wrap64 (1 + t159)), .int .i64 (wrap64 (1 + t161)), .int .i64 (wrap64 (1 + t163)), .int .i64 (wrap64 (1 + t165)), .int .i64 (wrap64 (1 + t167)), .int .i64 (wrap64 (1 + t169)), .int .i64 0, .int .i64 0, .int .i64 0, .int .u64 0]) ?_ 8 _ rfl; (with_reducible repeat (first | refine blk_drewN ?_ _ | refine blk_drew ?_ | refine blk_alloc ?_ _)); exact BK149.out) NB149_0.out (by simp)); have n3_ := Aside0.mk (KeepBut.trans (by repeat (first | (with_reducible first | exact HK.out | apply KeepBut.set_ | apply keep_drewN | apply keep_drew | apply keep_alloc | refine keep_far ?_ GW148.out _ | refine keep_far ?_ GW149.out _) | exact HK.out)) hk (.inl rfl)); have n4_ := Aside0.mk (hb); have n5_ := Aside0.mk (hi); clear HO_150000; clear BK148; clear BK149; clear HK; clear HB; clear HI0; have HO_150000 := n0_; have BK148 := n1_; have BK149 := n2_; have HK := n3_; have HB := n4_; have HI0 := n5_; clear n0_ n1_ n2_ n3_ n4_ n5_; (try clear hb); (try clear hb2); (try clear hk); (try clear hi); have hcz47_0 : w46.cell? ⟨gb149, 0, none⟩ = some (u150000) := (blk_cell BK149.out 0).trans rfl; have hcz47_1 : w46.cell? ⟨gb149, 1, none⟩ = some (.int .i64 (wrap64 (1 + t157))) := (blk_cell BK149.out 1).trans rfl; have hcz47_2 : w46.cell? ⟨gb149, 2, none⟩ = some (.int .i64 (wrap64 (1 + t159))) := (blk_cell BK149.out 2).trans rfl; have hcz47_3 : w46.cell? ⟨gb149, 3, none⟩ = some (.int .i64 (wrap64 (1 + t161))) := (blk_cell BK149.out 3).trans rfl; have hcz47_4 : w46.cell? ⟨gb149, 4, none⟩ = some (.int .i64 (wrap64 (1 + t163))) := (blk_cell BK149.out 4).trans rfl; have hcz47_5 : w46.cell? ⟨gb149, 5, none⟩ = some (.int .i64 (wrap64 (1 + t165))) := (blk_cell BK149.out 5).trans rfl; have hcz47_6 : w46.cell? ⟨gb149, 6, none⟩ = some (.int .i64 (wrap64 (1 + t167))) := (blk_cell BK149.out 6).trans rfl; have hcz47_7 : w46.cell? ⟨gb149, 7, none⟩ = some (.int .i64 (wrap64 (1 + t169))) := (blk_cell BK149.out 7).trans rfl; have hcz47_8 : w46.cell? ⟨gb149, 8, none⟩ = some (.int .i64 (wrap64 (1 + t171))) := (blk_cell BK149.out 8).trans rfl; have hcz47_9 : w46.cell? ⟨gb149, 9, none⟩ = some (.int .i64 0) := (blk_cell BK149.out 9).trans rfl; have hcz47_10 : w46.cell? ⟨gb149, 10, none⟩ = some (.int .i64 0) := (blk_cell BK149.out 10).trans rfl; have hcz47_11 : w46.cell? ⟨gb149, 11, none⟩ = some (.int .u64 0) := (blk_cell BK149.out 11).trans rfl; have hfz47_0 := blk_frozen BK149.out 0; have hfz47_1 := blk_frozen BK149.out 1; have hfz47_2 := blk_frozen BK149.out 2; have hfz47_3 := blk_frozen BK149.out 3; have hfz47_4 := blk_frozen BK149.out 4; have hfz47_5 := blk_frozen BK149.out 5; have hfz47_6 := blk_frozen BK149.out 6; have hfz47_7 := blk_frozen BK149.out 7; have hfz47_8 := blk_frozen BK149.out 8; have hfz47_9 := blk_frozen BK149.out 9; have hfz47_10 := blk_frozen BK149.out 10; have hfz47_11 := blk_frozen BK149.out 11) | ((with_reducible refine gate_callee (f := 22) rfl ?_); refine goesL_ (some 60) rfl rfl Try.func22 (by kernel_rfl) rfl #[.pointer (some ⟨g, 0, none⟩), .int .i64 3] rfl (by (try simp only [List.map_toArray, List.map_cons, List.map_nil]); first | done | rfl | (simp only [List.length_drop, List.length_take]; rfl)) ?_; (with_reducible refine (muleteerref40_Dice_Below.calls g t174 3 t175 t176 w0 _ ?side1 ?side2 A26.out).mono ?_); (case side1 => repeat (first | (with_reducible first | exact HI0.out | apply IsS32.alloc | apply IsS32.drewN | apply IsS32.drew | apply IsS32.set_0 | refine IsS32.far ?_ NB0_148.out _ | refine IsS32.far ?_ NB0_149.out _) | exact HI0.out)); (case side2 => repeat (first | (with_reducible first | exact HB.out | apply below_alloc | apply pw_below_drewN | apply below_drew1 | refine below_set ?_ (IsS32.ge HI0.out) | refine below_set ?_ GE148.out | refine below_set ?_ GE149.out) | exact HB.out)); rintro e w48 ⟨rfl, hi, hb, hk⟩; refine ⟨_, rfl, ?_⟩; have n0_ := Aside0.mk (Kd.R_mono (Kd.R_keep (IsS32.apart (show IsS32 w0 _ g t174 from by repeat (first | (with_reducible first | exact HI0.out | apply IsS32.alloc | apply IsS32.drewN | apply IsS32.drew | apply IsS32.set_0 | refine IsS32.far ?_ NB0_148.out _ | refine IsS32.far ?_ NB0_149.out _) | exact HI0.out)) (by (with_reducible repeat (first | apply Kd.R_alloc | apply Kd.R_drewN | apply Kd.R_drew)); exact (Kd.R_mono (Kd.R_far (p := ⟨gb149, 9, none⟩) (Kd.R_types HO_150000.out BK149.out (by decide)) (fun _ hk => hk.2) (.int .i64 (wrap64 (1 + t173)))) (fun _ h_ => h_.1))) (by decide)) hk (fun _ h => h.2)) (fun _ h => h.1)); have n1_ := Aside0.mk (KeepBut.blk hk (g' := gb148) (o := .cells #[.slice none 0 0, .int .i64 0, .int .i64 0, .int .i64 0, .int .i64 0, .int .i64 0, .int .i64 0, .int .i64 0, .int .i64 0, .int .i64 0, .int .i64 0, .int .u64 0] 25 (0, 0)) (by (with_reducible repeat (first | refine blk_drewN ?_ _ | refine blk_drew ?_ | refine blk_alloc ?_ _)); refine blk_far ?_ NB148_149.out _; (with_reducible repeat (first | refine blk_drewN ?_ _ | refine blk_drew ?_ | refine blk_alloc ?_ _)); exact BK148.out) NB148_0.out (by simp)); have n2_ := Aside0.mk (KeepBut.blk hk (g' := gb149) (o := .cells #[u150000, .int .i64 (wrap64 (1 + t157)), .int .i64 (wrap64 (1 + t159)), .int .i64 (wrap64 (1 + t161)), .int .i64 (wrap64 (1 + t163)), .int .i64 (wrap64 (1 + t165)), .int .i64 (wrap64 (1 + t167)), .int .i64 (wrap64 (1 + t169)), .int .i64 (wrap64 (1 + t171)), .int .i64 (wrap64 (1 + t173)), .int .i64 0, .int .u64 0] 25 (0, 0)) (by (with_reducible repeat (first | refine blk_drewN ?_ _ | refine blk_drew ?_ | refine blk_alloc ?_ _)); refine blk_put (cs := #[u150000, .int .i64 (wrap64 (1 + t157)), .int .i64 (wrap64 (1 + t159)), .int .i64 (wrap64 (1 + t161)), .int .i64 (wrap64 (1 + t163)), .int .i64 (wrap64 (1 + t165)), .int .i64 (wrap64 (1 + t167)), .int .i64 (wrap64 (1 + t169)), .int .i64 (wrap64 (1 + t171)), .int .i64 0, .int .i64 0, .int .u64 0]) ?_ 9 _ rfl; (with_reducible repeat (first | refine blk_drewN ?_ _ | refine blk_drew ?_ | refine blk_alloc ?_ _)); exact BK149.out) NB149_0.out (by simp)); have n3_ := Aside0.mk (KeepBut.trans (by repeat (first | (with_reducible first | exact HK.out | apply KeepBut.set_ | apply keep_drewN | apply keep_drew | apply keep_alloc | refine keep_far ?_ GW148.out _ | refine keep_far ?_ GW149.out _) | exact HK.out)) hk (.inl rfl)); have n4_ := Aside0.mk (hb); have n5_ := Aside0.mk (hi); clear HO_150000; clear BK148; clear BK149; clear HK; clear HB; clear HI0; have HO_150000 := n0_; have BK148 := n1_; have BK149 := n2_; have HK := n3_; have HB := n4_; have HI0 := n5_; clear n0_ n1_ n2_ n3_ n4_ n5_; (try clear hb); (try clear hb2); (try clear hk); (try clear hi); have hcz49_0 : w48.cell? ⟨gb149, 0, none⟩ = some (u150000) := (blk_cell BK149.out 0).trans rfl; have hcz49_1 : w48.cell? ⟨gb149, 1, none⟩ = some (.int .i64 (wrap64 (1 + t157))) := (blk_cell BK149.out 1).trans rfl; have hcz49_2 : w48.cell? ⟨gb149, 2, none⟩ = some (.int .i64 (wrap64 (1 + t159))) := (blk_cell BK149.out 2).trans rfl; have hcz49_3 : w48.cell? ⟨gb149, 3, none⟩ = some (.int .i64 (wrap64 (1 + t161))) := (blk_cell BK149.out 3).trans rfl; have hcz49_4 : w48.cell? ⟨gb149, 4, none⟩ = some (.int .i64 (wrap64 (1 + t163))) := (blk_cell BK149.out 4).trans rfl; have hcz49_5 : w48.cell? ⟨gb149, 5, none⟩ = some (.int .i64 (wrap64 (1 + t165))) := (blk_cell BK149.out 5).trans rfl; have hcz49_6 : w48.cell? ⟨gb149, 6, none⟩ = some (.int .i64 (wrap64 (1 + t167))) := (blk_cell BK149.out 6).trans rfl; have hcz49_7 : w48.cell? ⟨gb149, 7, none⟩ = some (.int .i64 (wrap64 (1 + t169))) := (blk_cell BK149.out 7).trans rfl; have hcz49_8 : w48.cell? ⟨gb149, 8, none⟩ = some (.int .i64 (wrap64 (1 + t171))) := (blk_cell BK149.out 8).trans rfl; have hcz49_9 : w48.cell? ⟨gb149, 9, none⟩ = some (.int .i64 (wrap64 (1 + t173))) := (blk_cell BK149.out 9).trans rfl; have hcz49_10 : w48.cell? ⟨gb149, 10, none⟩ = some (.int .i64 0) := (blk_cell BK149.out 10).trans rfl; have hcz49_11 : w48.cell? ⟨gb149, 11, none⟩ = some (.int .u64 0) := (blk_cell BK149.out 11).trans rfl; have hfz49_0 := blk_frozen BK149.out 0; have hfz49_1 := blk_frozen BK149.out 1; have hfz49_2 := blk_frozen BK149.out 2; have hfz49_3 := blk_frozen BK149.out 3; have hfz49_4 := blk_frozen BK149.out 4; have hfz49_5 := blk_frozen BK149.out 5; have hfz49_6 := blk_frozen BK149.out 6; have hfz49_7 := blk_frozen BK149.out 7; have hfz49_8 := blk_frozen BK149.out 8; have hfz49_9 := blk_frozen BK149.out 9; have hfz49_10 := blk_frozen BK149.out 10; have hfz49_11 := blk_frozen BK149.out 11) | ((with_reducible refine gate_callee (f := 22) rfl ?_); refine goesL_ (some 63) rfl rfl Try.func22 (by kernel_rfl) rfl #[.pointer (some ⟨g, 0, none⟩), .int .i64 1000] rfl (by (try simp only [List.map_toArray, List.map_cons, List.map_nil]); first | done | rfl | (simp only [List.length_drop, List.length_take]; rfl)) ?_; (with_reducible refine (muleteerref40_Dice_Below.calls g t176 1000 t177 t178 w0 _ ?side1 ?side2 A27.out).mono ?_); (case side1 => repeat (first | (with_reducible first | exact HI0.out | apply IsS32.alloc | apply IsS32.drewN | apply IsS32.drew | apply IsS32.set_0 | refine IsS32.far ?_ NB0_148.out _ | refine IsS32.far ?_ NB0_149.out _) | exact HI0.out)); (case side2 => repeat (first | (with_reducible first | exact HB.out | apply below_alloc | apply pw_below_drewN | apply below_drew1 | refine below_set ?_ (IsS32.ge HI0.out) | refine below_set ?_ GE148.out | refine below_set ?_ GE149.out) | exact HB.out)); rintro e w50 ⟨rfl, hi, hb, hk⟩; refine ⟨_, rfl, ?_⟩; have n0_ := Aside0.mk (Kd.R_mono (Kd.R_keep (IsS32.apart (show IsS32 w0 _ g t176 from by repeat (first | (with_reducible first | exact HI0.out | apply IsS32.alloc | apply IsS32.drewN | apply IsS32.drew | apply IsS32.set_0 | refine IsS32.far ?_ NB0_148.out _ | refine IsS32.far ?_ NB0_149.out _) | exact HI0.out)) (by (with_reducible repeat (first | apply Kd.R_alloc | apply Kd.R_drewN | apply Kd.R_drew)); exact (Kd.R_mono (Kd.R_far (p := ⟨gb149, 10, none⟩) (Kd.R_types HO_150000.out BK149.out (by decide)) (fun _ hk => hk.2) (.int .i64 t175)) (fun _ h_ => h_.1))) (by decide)) hk (fun _ h => h.2)) (fun _ h => h.1)); have n1_ := Aside0.mk (KeepBut.blk hk (g' := gb148) (o := .cells #[.slice none 0 0, .int .i64 0, .int .i64 0, .int .i64 0, .int .i64 0, .int .i64 0, .int .i64 0, .int .i64 0, .int .i64 0, .int .i64 0, .int .i64 0, .int .u64 0] 25 (0, 0)) (by (with_reducible repeat (first | refine blk_drewN ?_ _ | refine blk_drew ?_ | refine blk_alloc ?_ _)); refine blk_far ?_ NB148_149.out _; (with_reducible repeat (first | refine blk_drewN ?_ _ | refine blk_drew ?_ | refine blk_alloc ?_ _)); exact BK148.out) NB148_0.out (by simp)); have n2_ := Aside0.mk (KeepBut.blk hk (g' := gb149) (o := .cells #[u150000, .int .i64 (wrap64 (1 + t157)), .int .i64 (wrap64 (1 + t159)), .int .i64 (wrap64 (1 + t161)), .int .i64 (wrap64 (1 + t163)), .int .i64 (wrap64 (1 + t165)), .int .i64 (wrap64 (1 + t167)), .int .i64 (wrap64 (1 + t169)), .int .i64 (wrap64 (1 + t171)), .int .i64 (wrap64 (1 + t173)), .int .i64 t175, .int .u64 0] 25 (0, 0)) (by (with_reducible repeat (first | refine blk_drewN ?_ _ | refine blk_drew ?_ | refine blk_alloc ?_ _)); refine blk_put (cs := #[u150000, .int .i64 (wrap64 (1 + t157)), .int .i64 (wrap64 (1 + t159)), .int .i64 (wrap64 (1 + t161)), .int .i64 (wrap64 (1 + t163)), .int .i64 (wrap64 (1 + t165)), .int .i64 (wrap64 (1 + t167)), .int .i64 (wrap64 (1 + t169)), .int .i64 (wrap64 (1 + t171)), .int .i64 (wrap64 (1 + t173)), .int .i64 0, .int .u64 0]) ?_ 10 _ rfl; (with_reducible repeat (first | refine blk_drewN ?_ _ | refine blk_drew ?_ | refine blk_alloc ?_ _)); exact BK149.out) NB149_0.out (by simp)); have n3_ := Aside0.mk (KeepBut.trans (by repeat (first | (with_reducible first | exact HK.out | apply KeepBut.set_ | apply keep_drewN | apply keep_drew | apply keep_alloc | refine keep_far ?_ GW148.out _ | refine keep_far ?_ GW149.out _) | exact HK.out)) hk (.inl rfl)); have n4_ := Aside0.mk (hb); have n5_ := Aside0.mk (hi); clear HO_150000; clear BK148; clear BK149; clear HK; clear HB; clear HI0; have HO_150000 := n0_; have BK148 := n1_; have BK149 := n2_; have HK := n3_; have HB := n4_; have HI0 := n5_; clear n0_ n1_ n2_ n3_ n4_ n5_; (try clear hb); (try clear hb2); (try clear hk); (try clear hi); have hcz51_0 : w50.cell? ⟨gb149, 0, none⟩ = some (u150000) := (blk_cell BK149.out 0).trans rfl; have hcz51_1 : w50.cell? ⟨gb149, 1, none⟩ = some (.int .i64 (wrap64 (1 + t157))) := (blk_cell BK149.out 1).trans rfl; have hcz51_2 : w50.cell? ⟨gb149, 2, none⟩ = some (.int .i64 (wrap64 (1 + t159))) := (blk_cell BK149.out 2).trans rfl; have hcz51_3 : w50.cell? ⟨gb149, 3, none⟩ = some (.int .i64 (wrap64 (1 + t161))) := (blk_cell BK149.out 3).trans rfl; have hcz51_4 : w50.cell? ⟨gb149, 4, none⟩ = some (.int .i64 (wrap64 (1 + t163))) := (blk_cell BK149.out 4).trans rfl; have hcz51_5 : w50.cell? ⟨gb149, 5, none⟩ = some (.int .i64 (wrap64 (1 + t165))) := (blk_cell BK149.out 5).trans rfl; have hcz51_6 : w50.cell? ⟨gb149, 6, none⟩ = some (.int .i64 (wrap64 (1 + t167))) := (blk_cell BK149.out 6).trans rfl; have hcz51_7 : w50.cell? ⟨gb149, 7, none⟩ = some (.int .i64 (wrap64 (1 + t169))) := (blk_cell BK149.out 7).trans rfl; have hcz51_8 : w50.cell? ⟨gb149, 8, none⟩ = some (.int .i64 (wrap64 (1 + t171))) := (blk_cell BK149.out 8).trans rfl; have hcz51_9 : w50.cell? ⟨gb149, 9, none⟩ = some (.int .i64 (wrap64 (1 + t173))) := (blk_cell BK149.out 9).trans rfl; have hcz51_10 : w50.cell? ⟨gb149, 10, none⟩ = some (.int .i64 t175) := (blk_cell BK149.out 10).trans rfl; have hcz51_11 : w50.cell? ⟨gb149, 11, none⟩ = some (.int .u64 0) := (blk_cell BK149.out 11).trans rfl; have hfz51_0 := blk_frozen BK149.out 0; have hfz51_1 := blk_frozen BK149.out 1; have hfz51_2 := blk_frozen BK149.out 2; have hfz51_3 := blk_frozen BK149.out 3; have hfz51_4 := blk_frozen BK149.out 4; have hfz51_5 := blk_frozen BK149.out 5; have hfz51_6 := blk_frozen BK149.out 6; have hfz51_7 := blk_frozen BK149.out 7; have hfz51_8 := blk_frozen BK149.out 8; have hfz51_9 := blk_frozen BK149.out 9; have hfz51_10 := blk_frozen BK149.out 10; have hfz51_11 := blk_frozen BK149.out 11; obtain ⟨Ao52, co52, eo52⟩ := Kd.R_slice HO_150000.out; subst eo52; have hnb53 := NB148_0.out; have hnc53 := NB0_148.out; have hcz54_0 : w50.cell? ⟨gb148, 0, none⟩ = some (.slice none 0 0) := (blk_cell BK148.out 0).trans rfl; have hcz54_1 : w50.cell? ⟨gb148, 1, none⟩ = some (.int .i64 0) := (blk_cell BK148.out 1).trans rfl; have hcz54_2 : w50.cell? ⟨gb148, 2, none⟩ = some (.int .i64 0) := (blk_cell BK148.out 2).trans rfl; have hcz54_3 : w50.cell? ⟨gb148, 3, none⟩ = some (.int .i64 0) := (blk_cell BK148.out 3).trans rfl; have hcz54_4 : w50.cell? ⟨gb148, 4, none⟩ = some (.int .i64 0) := (blk_cell BK148.out 4).trans rfl; have hcz54_5 : w50.cell? ⟨gb148, 5, none⟩ = some (.int .i64 0) := (blk_cell BK148.out 5).trans rfl; have hcz54_6 : w50.cell? ⟨gb148, 6, none⟩ = some (.int .i64 0) := (blk_cell BK148.out 6).trans rfl; have hcz54_7 : w50.cell? ⟨gb148, 7, none⟩ = some (.int .i64 0) := (blk_cell BK148.out 7).trans rfl; have hcz54_8 : w50.cell? ⟨gb148, 8, none⟩ = some (.int .i64 0) := (blk_cell BK148.out 8).trans rfl; have hcz54_9 : w50.cell? ⟨gb148, 9, none⟩ = some (.int .i64 0) := (blk_cell BK148.out 9).trans rfl; have hcz54_10 : w50.cell? ⟨gb148, 10, none⟩ = some (.int .i64 0) := (blk_cell BK148.out 10).trans rfl; have hcz54_11 : w50.cell? ⟨gb148, 11, none⟩ = some (.int .u64 0) := (blk_cell BK148.out 11).trans rfl; have hfz54_0 := blk_frozen BK148.out 0; have hfz54_1 := blk_frozen BK148.out 1; have hfz54_2 := blk_frozen BK148.out 2; have hfz54_3 := blk_frozen BK148.out 3; have hfz54_4 := blk_frozen BK148.out 4; have hfz54_5 := blk_frozen BK148.out 5; have hfz54_6 := blk_frozen BK148.out 6; have hfz54_7 := blk_frozen BK148.out 7; have hfz54_8 := blk_frozen BK148.out 8; have hfz54_9 := blk_frozen BK148.out 9; have hfz54_10 := blk_frozen BK148.out 10; have hfz54_11 := blk_frozen BK148.out 11))
        refine bodyPost_ret (results_cell_row rfl _ _ gb148 25 #[.slice Ao52 x150000_1.length co52, .int .i64 (wrap64 (1 + t157)), .int .i64 (wrap64 (1 + t159)), .int .i64 (wrap64 (1 + t161)), .int .i64 (wrap64 (1 + t163)), .int .i64 (wrap64 (1 + t165)), .int .i64 (wrap64 (1 + t167)), .int .i64 (wrap64 (1 + t169)), .int .i64 (wrap64 (1 + t171)), .int .i64 (wrap64 (1 + t173)), .int .i64 t175, .int .u64 (IntKind.u64.wrap (t177))] (0, 0) _ rfl (by (with_reducible repeat (first | refine blk_drewN ?_ _ | refine blk_drew ?_ | refine blk_alloc ?_ _)); refine blk_put (cs := #[.slice Ao52 x150000_1.length co52, .int .i64 (wrap64 (1 + t157)), .int .i64 (wrap64 (1 + t159)), .int .i64 (wrap64 (1 + t161)), .int .i64 (wrap64 (1 + t163)), .int .i64 (wrap64 (1 + t165)), .int .i64 (wrap64 (1 + t167)), .int .i64 (wrap64 (1 + t169)), .int .i64 (wrap64 (1 + t171)), .int .i64 (wrap64 (1 + t173)), .int .i64 t175, .int .u64 0]) ?_ 11 _ rfl; (with_reducible repeat (first | refine blk_drewN ?_ _ | refine blk_drew ?_ | refine blk_alloc ?_ _)); refine blk_put (cs := #[.slice Ao52 x150000_1.length co52, .int .i64 (wrap64 (1 + t157)), .int .i64 (wrap64 (1 + t159)), .int .i64 (wrap64 (1 + t161)), .int .i64 (wrap64 (1 + t163)), .int .i64 (wrap64 (1 + t165)), .int .i64 (wrap64 (1 + t167)), .int .i64 (wrap64 (1 + t169)), .int .i64 (wrap64 (1 + t171)), .int .i64 (wrap64 (1 + t173)), .int .i64 0, .int .u64 0]) ?_ 10 _ rfl; (with_reducible repeat (first | refine blk_drewN ?_ _ | refine blk_drew ?_ | refine blk_alloc ?_ _)); refine blk_put (cs := #[.slice Ao52 x150000_1.length co52, .int .i64 (wrap64 (1 + t157)), .int .i64 (wrap64 (1 + t159)), .int .i64 (wrap64 (1 + t161)), .int .i64 (wrap64 (1 + t163)), .int .i64 (wrap64 (1 + t165)), .int .i64 (wrap64 (1 + t167)), .int .i64 (wrap64 (1 + t169)), .int .i64 (wrap64 (1 + t171)), .int .i64 0, .int .i64 0, .int .u64 0]) ?_ 9 _ rfl; (with_reducible repeat (first | refine blk_drewN ?_ _ | refine blk_drew ?_ | refine blk_alloc ?_ _)); refine blk_put (cs := #[.slice Ao52 x150000_1.length co52, .int .i64 (wrap64 (1 + t157)), .int .i64 (wrap64 (1 + t159)), .int .i64 (wrap64 (1 + t161)), .int .i64 (wrap64 (1 + t163)), .int .i64 (wrap64 (1 + t165)), .int .i64 (wrap64 (1 + t167)), .int .i64 (wrap64 (1 + t169)), .int .i64 0, .int .i64 0, .int .i64 0, .int .u64 0]) ?_ 8 _ rfl; (with_reducible repeat (first | refine blk_drewN ?_ _ | refine blk_drew ?_ | refine blk_alloc ?_ _)); refine blk_put (cs := #[.slice Ao52 x150000_1.length co52, .int .i64 (wrap64 (1 + t157)), .int .i64 (wrap64 (1 + t159)), .int .i64 (wrap64 (1 + t161)), .int .i64 (wrap64 (1 + t163)), .int .i64 (wrap64 (1 + t165)), .int .i64 (wrap64 (1 + t167)), .int .i64 0, .int .i64 0, .int .i64 0, .int .i64 0, .int .u64 0]) ?_ 7 _ rfl; (with_reducible repeat (first | refine blk_drewN ?_ _ | refine blk_drew ?_ | refine blk_alloc ?_ _)); refine blk_put (cs := #[.slice Ao52 x150000_1.length co52, .int .i64 (wrap64 (1 + t157)), .int .i64 (wrap64 (1 + t159)), .int .i64 (wrap64 (1 + t161)), .int .i64 (wrap64 (1 + t163)), .int .i64 (wrap64 (1 + t165)), .int .i64 0, .int .i64 0, .int .i64 0, .int .i64 0, .int .i64 0, .int .u64 0]) ?_ 6 _ rfl; (with_reducible repeat (first | refine blk_drewN ?_ _ | refine blk_drew ?_ | refine blk_alloc ?_ _)); refine blk_put (cs := #[.slice Ao52 x150000_1.length co52, .int .i64 (wrap64 (1 + t157)), .int .i64 (wrap64 (1 + t159)), .int .i64 (wrap64 (1 + t161)), .int .i64 (wrap64 (1 + t163)), .int .i64 0, .int .i64 0, .int .i64 0, .int .i64 0, .int .i64 0, .int .i64 0, .int .u64 0]) ?_ 5 _ rfl; (with_reducible repeat (first | refine blk_drewN ?_ _ | refine blk_drew ?_ | refine blk_alloc ?_ _)); refine blk_put (cs := #[.slice Ao52 x150000_1.length co52, .int .i64 (wrap64 (1 + t157)), .int .i64 (wrap64 (1 + t159)), .int .i64 (wrap64 (1 + t161)), .int .i64 0, .int .i64 0, .int .i64 0, .int .i64 0, .int .i64 0, .int .i64 0, .int .i64 0, .int .u64 0]) ?_ 4 _ rfl; (with_reducible repeat (first | refine blk_drewN ?_ _ | refine blk_drew ?_ | refine blk_alloc ?_ _)); refine blk_put (cs := #[.slice Ao52 x150000_1.length co52, .int .i64 (wrap64 (1 + t157)), .int .i64 (wrap64 (1 + t159)), .int .i64 0, .int .i64 0, .int .i64 0, .int .i64 0, .int .i64 0, .int .i64 0, .int .i64 0, .int .i64 0, .int .u64 0]) ?_ 3 _ rfl; (with_reducible repeat (first | refine blk_drewN ?_ _ | refine blk_drew ?_ | refine blk_alloc ?_ _)); refine blk_put (cs := #[.slice Ao52 x150000_1.length co52, .int .i64 (wrap64 (1 + t157)), .int .i64 0, .int .i64 0, .int .i64 0, .int .i64 0, .int .i64 0, .int .i64 0, .int .i64 0, .int .i64 0, .int .i64 0, .int .u64 0]) ?_ 2 _ rfl; (with_reducible repeat (first | refine blk_drewN ?_ _ | refine blk_drew ?_ | refine blk_alloc ?_ _)); refine blk_put (cs := #[.slice Ao52 x150000_1.length co52, .int .i64 0, .int .i64 0, .int .i64 0, .int .i64 0, .int .i64 0, .int .i64 0, .int .i64 0, .int .i64 0, .int .i64 0, .int .i64 0, .int .u64 0]) ?_ 1 _ rfl; (with_reducible repeat (first | refine blk_drewN ?_ _ | refine blk_drew ?_ | refine blk_alloc ?_ _)); refine blk_put (cs := #[.slice none 0 0, .int .i64 0, .int .i64 0, .int .i64 0, .int .i64 0, .int .i64 0, .int .i64 0, .int .i64 0, .int .i64 0, .int .i64 0, .int .i64 0, .int .u64 0]) ?_ 0 _ rfl; (with_reducible repeat (first | refine blk_drewN ?_ _ | refine blk_drew ?_ | refine blk_alloc ?_ _)); refine blk_far ?_ NB148_149.out _; (with_reducible repeat (first | refine blk_drewN ?_ _ | refine blk_drew ?_ | refine blk_alloc ?_ _)); exact BK148.out) Try.underlying25 rfl (by kernel_rfl)) rfl ?_
        exact ⟨_, by first | rfl | (simp [errW_none, errW_some] <;> rfl) | (simp [*, errW_none, errW_some] <;> rfl), by (with_reducible repeat (first | apply Kd.R_alloc | apply Kd.R_drewN | apply Kd.R_drew)); exact Kd.R_mono (Kd.R_far (p := ⟨gb148, 11, none⟩) (Kd.R_far (p := ⟨gb148, 10, none⟩) (Kd.R_far (p := ⟨gb148, 9, none⟩) (Kd.R_far (p := ⟨gb148, 8, none⟩) (Kd.R_far (p := ⟨gb148, 7, none⟩) (Kd.R_far (p := ⟨gb148, 6, none⟩) (Kd.R_far (p := ⟨gb148, 5, none⟩) (Kd.R_far (p := ⟨gb148, 4, none⟩) (Kd.R_far (p := ⟨gb148, 3, none⟩) (Kd.R_far (p := ⟨gb148, 2, none⟩) (Kd.R_far (p := ⟨gb148, 1, none⟩) (Kd.R_far (p := ⟨gb148, 0, none⟩) (Kd.R_far (p := ⟨gb149, 11, none⟩) (Kd.R_types (Kd.R_types HO_150000.out BK149.out (by decide)) BK148.out (by decide)) (fun _ hk => hk.1.2) (.int .u64 (IntKind.u64.wrap (t177)))) (fun _ hk => hk.2) (.slice Ao52 x150000_1.length co52)) (fun _ hk => hk.2) (.int .i64 (wrap64 (1 + t157)))) (fun _ hk => hk.2) (.int .i64 (wrap64 (1 + t159)))) (fun _ hk => hk.2) (.int .i64 (wrap64 (1 + t161)))) (fun _ hk => hk.2) (.int .i64 (wrap64 (1 + t163)))) (fun _ hk => hk.2) (.int .i64 (wrap64 (1 + t165)))) (fun _ hk => hk.2) (.int .i64 (wrap64 (1 + t167)))) (fun _ hk => hk.2) (.int .i64 (wrap64 (1 + t169)))) (fun _ hk => hk.2) (.int .i64 (wrap64 (1 + t171)))) (fun _ hk => hk.2) (.int .i64 (wrap64 (1 + t173)))) (fun _ hk => hk.2) (.int .i64 t175)) (fun _ hk => hk.2) (.int .u64 (IntKind.u64.wrap (t177)))) (fun _ hk => trivial), by repeat (first | (with_reducible first | exact HI0.out | apply IsS32.alloc | apply IsS32.drewN | apply IsS32.drew | apply IsS32.set_0 | refine IsS32.far ?_ NB0_148.out _ | refine IsS32.far ?_ NB0_149.out _) | exact HI0.out), by repeat (first | (with_reducible first | exact HB.out | apply below_alloc | apply pw_below_drewN | apply below_drew1 | refine below_set ?_ (IsS32.ge HI0.out) | refine below_set ?_ GE148.out | refine below_set ?_ GE149.out) | exact HB.out), by repeat (first | (with_reducible first | exact HK.out | apply KeepBut.set_ | apply keep_drewN | apply keep_drew | apply keep_alloc | refine keep_far ?_ GW148.out _ | refine keep_far ?_ GW149.out _) | exact HK.out)⟩

/-! ### muleteerref07_off: function 23 -/
def muleteerref07_off.f (a0 : Int) (a1 : Int) (a2 : Int) : Option (Bool) := if a0 < a1 then (some true) else (some (decide (a0 > a2)))
set_option maxHeartbeats 8000000 in
set_option maxRecDepth 100000 in
theorem muleteerref07_off.calls (a0 : Int) (a1 : Int) (a2 : Int) (r : Bool) (w : World) (h : muleteerref07_off.f a0 a1 a2 = some r) :
    Calls Try.prog 23 #[.int .i64 a0, .int .i64 a1, .int .i64 a2] w fun e w' => e = .returned (.bool r) ∧ Drawn0 w w' := by
  have H : (if a0 < a1 then (some true) else (some (decide (a0 > a2)))) = some r := h
  clear h
  by_cases c4 : a0 < a1
  · rw [if_pos c4] at H
    have c4b0 : decide (a0 < a1) = true := decide_eq_true c4
    clear c4
    obtain rfl := Option.some.inj H
    go_enter Try.func23, Try.ntmps23
    go_wp2
    go_ret
    exact ⟨by first | rfl | (simp; done) | (simp [*]; done), by repeat (first | exact Drawn0.refl _ | apply Drawn0.step)⟩
  · rw [if_neg c4] at H
    have c4b0 : decide (a0 < a1) = false := decide_eq_false c4
    clear c4
    obtain rfl := Option.some.inj H
    go_enter Try.func23, Try.ntmps23
    go_wp2
    go_ret
    exact ⟨by first | rfl | (simp; done) | (simp [*]; done), by repeat (first | exact Drawn0.refl _ | apply Drawn0.step)⟩

/-! ### muleteerref07_Wrong: function 11 -/
def muleteerref07_Wrong.f (l0_0 : List Bool) (a0_1 : Int) (a0_2 : Int) (a0_3 : Int) (a0_4 : Int) (a0_5 : Int) (a0_6 : Int) (a0_7 : Int) (a0_8 : Int) (a0_9 : Int) (a0_10 : Int) (a0_11 : Int) : Option (ByteArray) := (muleteerref07_off.f (l0_0.length : Int) 1 4).bind fun t180 => (if t180 = true then (some (⟨#[99, 104, 97, 110, 110, 101, 108, 115]⟩ : ByteArray)) else ((muleteerref07_off.f a0_1 1 4).bind fun t181 => (if t181 = true then (some (⟨#[97, 99, 99, 111, 117, 110, 116, 115]⟩ : ByteArray)) else ((muleteerref07_off.f a0_2 1 8).bind fun t182 => (if t182 = true then (some (⟨#[115, 104, 97, 114, 100, 115]⟩ : ByteArray)) else ((muleteerref07_off.f a0_3 1 64).bind fun t183 => (if t183 = true then (some (⟨#[114, 111, 111, 109]⟩ : ByteArray)) else ((muleteerref07_off.f a0_4 1 32).bind fun t184 => (if t184 = true then (some (⟨#[112, 111, 111, 108]⟩ : ByteArray)) else ((muleteerref07_off.f a0_5 1 16).bind fun t185 => (if t185 = true then (some (⟨#[98, 108, 111, 99, 107]⟩ : ByteArray)) else ((muleteerref07_off.f a0_6 1 8).bind fun t186 => (if t186 = true then (some (⟨#[98, 97, 116, 99, 104]⟩ : ByteArray)) else ((muleteerref07_off.f a0_7 1 4).bind fun t187 => (if t187 = true then (some (⟨#[116, 120, 115]⟩ : ByteArray)) else ((muleteerref07_off.f a0_8 1 8).bind fun t188 => (if t188 = true then (some (⟨#[115, 99, 97, 110]⟩ : ByteArray)) else ((muleteerref07_off.f a0_9 1 16).bind fun t189 => (if t189 = true then (some (⟨#[113, 117, 101, 117, 101]⟩ : ByteArray)) else ((muleteerref07_off.f a0_10 0 8).bind fun t190 => (if t190 = true then (some (⟨#[119, 97, 105, 116]⟩ : ByteArray)) else (some (⟨#[]⟩ : ByteArray)))))))))))))))))))))))
theorem cells12W {w : World} {g : Nat} {v0 v1 v2 v3 v4 v5 v6 v7 v8 v9 v10 v11 : Value} {T : Nat} (h : w.heap[g]? = some (.cells #[v0, v1, v2, v3, v4, v5, v6, v7, v8, v9, v10, v11] T (0, 0))) : w.cell? ⟨g, 0, none⟩ = some v0 ∧ w.cell? ⟨g, 1, none⟩ = some v1 ∧ w.cell? ⟨g, 2, none⟩ = some v2 ∧ w.cell? ⟨g, 3, none⟩ = some v3 ∧ w.cell? ⟨g, 4, none⟩ = some v4 ∧ w.cell? ⟨g, 5, none⟩ = some v5 ∧ w.cell? ⟨g, 6, none⟩ = some v6 ∧ w.cell? ⟨g, 7, none⟩ = some v7 ∧ w.cell? ⟨g, 8, none⟩ = some v8 ∧ w.cell? ⟨g, 9, none⟩ = some v9 ∧ w.cell? ⟨g, 10, none⟩ = some v10 ∧ w.cell? ⟨g, 11, none⟩ = some v11 := ⟨(blk_cell h 0).trans rfl, (blk_cell h 1).trans rfl, (blk_cell h 2).trans rfl, (blk_cell h 3).trans rfl, (blk_cell h 4).trans rfl, (blk_cell h 5).trans rfl, (blk_cell h 6).trans rfl, (blk_cell h 7).trans rfl, (blk_cell h 8).trans rfl, (blk_cell h 9).trans rfl, (blk_cell h 10).trans rfl, (blk_cell h 11).trans rfl⟩
set_option maxHeartbeats 8000000 in
set_option maxRecDepth 100000 in
theorem muleteerref07_Wrong.calls (A0_0 : Option Addr) (c0_0 : Nat) (l0_0 : List Bool) (a0_1 : Int) (a0_2 : Int) (a0_3 : Int) (a0_4 : Int) (a0_5 : Int) (a0_6 : Int) (a0_7 : Int) (a0_8 : Int) (a0_9 : Int) (a0_10 : Int) (a0_11 : Int) (r : ByteArray) (w : World) (hr0_0 : Kd.C Kd.bool w A0_0 l0_0.length l0_0) (hc0_0 : l0_0.length ≤ c0_0) (h : muleteerref07_Wrong.f l0_0 a0_1 a0_2 a0_3 a0_4 a0_5 a0_6 a0_7 a0_8 a0_9 a0_10 a0_11 = some r) :
    Calls Try.prog 11 #[.agg #[.slice A0_0 l0_0.length c0_0, .int .i64 a0_1, .int .i64 a0_2, .int .i64 a0_3, .int .i64 a0_4, .int .i64 a0_5, .int .i64 a0_6, .int .i64 a0_7, .int .i64 a0_8, .int .i64 a0_9, .int .i64 a0_10, .int .u64 a0_11]] w fun e w' => e = .returned (.string r) ∧ Below w.heap.size w w' := by
  have HC := Lib.hid hc0_0
  have hn : l0_0.length ≤ 9223372036854775807 := Kd.C_max hr0_0
  clear hr0_0 hc0_0
  have hu25 := Try.underlying25
  have H : _ := h
  unfold muleteerref07_Wrong.f at H
  clear h
  go_enter Try.func11, Try.ntmps11
  have S0 := Lib.hid (blk_new w (.cells #[.slice A0_0 l0_0.length c0_0, .int .i64 a0_1, .int .i64 a0_2, .int .i64 a0_3, .int .i64 a0_4, .int .i64 a0_5, .int .i64 a0_6, .int .i64 a0_7, .int .i64 a0_8, .int .i64 a0_9, .int .i64 a0_10, .int .u64 a0_11] 25))
  have F0 := Lib.hid (below_alloc (Below.refl w.heap.size w) (.cells #[.slice A0_0 l0_0.length c0_0, .int .i64 a0_1, .int .i64 a0_2, .int .i64 a0_3, .int .i64 a0_4, .int .i64 a0_5, .int .i64 a0_6, .int .i64 a0_7, .int .i64 a0_8, .int .i64 a0_9, .int .i64 a0_10, .int .u64 a0_11] 25))
  generalize hbs : w.heap.size = bs at S0
  go_wp2_with fail
  generalize w.alloc _ = w0 at S0 F0 ⊢
  replace H := Option.bind_eq_some_iff.mp H
  obtain ⟨t0, A0, H⟩ := H
  refine (muleteerref07_off.calls _ _ _ t0 _ A0).mono ?_
  rintro e w' ⟨rfl, ⟨dr, rfl⟩⟩
  have S1 := Lib.hid (blk_below S0.out (pw_below_drewN (Below.refl _ _) dr))
  have F1 := Lib.hid (below_step F0.out (pw_below_drewN (Below.refl _ _) dr))
  clear S0 F0 A0
  generalize w0.drewN dr = w1 at S1 F1 ⊢
  cases t0 with
  | true =>
    rw [if_pos rfl] at H
    obtain rfl := Option.some.inj H
    go_wp2
    go_ret
    exact ⟨rfl, by rw [← hbs]; exact F1.out⟩
  | false =>
    rw [if_neg (by decide)] at H
    obtain ⟨k0, k1, k2, k3, k4, k5, k6, k7, k8, k9, k10, k11⟩ := cells12W S1.out
    go_wp2_with fail
    clear k0 k1 k2 k3 k4 k5 k6 k7 k8 k9 k10 k11
    replace H := Option.bind_eq_some_iff.mp H
    obtain ⟨t1, A1, H⟩ := H
    refine (muleteerref07_off.calls _ _ _ t1 _ A1).mono ?_
    rintro e w' ⟨rfl, ⟨dr, rfl⟩⟩
    have S2 := Lib.hid (blk_below S1.out (pw_below_drewN (Below.refl _ _) dr))
    have F2 := Lib.hid (below_step F1.out (pw_below_drewN (Below.refl _ _) dr))
    clear S1 F1 A1
    generalize w1.drewN dr = w2 at S2 F2 ⊢
    cases t1 with
    | true =>
      rw [if_pos rfl] at H
      obtain rfl := Option.some.inj H
      go_wp2
      go_ret
      exact ⟨rfl, by rw [← hbs]; exact F2.out⟩
    | false =>
      rw [if_neg (by decide)] at H
      obtain ⟨k0, k1, k2, k3, k4, k5, k6, k7, k8, k9, k10, k11⟩ := cells12W S2.out
      go_wp2_with fail
      clear k0 k1 k2 k3 k4 k5 k6 k7 k8 k9 k10 k11
      replace H := Option.bind_eq_some_iff.mp H
      obtain ⟨t2, A2, H⟩ := H
      refine (muleteerref07_off.calls _ _ _ t2 _ A2).mono ?_
      rintro e w' ⟨rfl, ⟨dr, rfl⟩⟩
      have S3 := Lib.hid (blk_below S2.out (pw_below_drewN (Below.refl _ _) dr))
      have F3 := Lib.hid (below_step F2.out (pw_below_drewN (Below.refl _ _) dr))
      clear S2 F2 A2
      generalize w2.drewN dr = w3 at S3 F3 ⊢
      cases t2 with
      | true =>
        rw [if_pos rfl] at H
        obtain rfl := Option.some.inj H
        go_wp2
        go_ret
        exact ⟨rfl, by rw [← hbs]; exact F3.out⟩
      | false =>
        rw [if_neg (by decide)] at H
        obtain ⟨k0, k1, k2, k3, k4, k5, k6, k7, k8, k9, k10, k11⟩ := cells12W S3.out
        go_wp2_with fail
        clear k0 k1 k2 k3 k4 k5 k6 k7 k8 k9 k10 k11
        replace H := Option.bind_eq_some_iff.mp H
        obtain ⟨t3, A3, H⟩ := H
        refine (muleteerref07_off.calls _ _ _ t3 _ A3).mono ?_
        rintro e w' ⟨rfl, ⟨dr, rfl⟩⟩
        have S4 := Lib.hid (blk_below S3.out (pw_below_drewN (Below.refl _ _) dr))
        have F4 := Lib.hid (below_step F3.out (pw_below_drewN (Below.refl _ _) dr))
        clear S3 F3 A3
        generalize w3.drewN dr = w4 at S4 F4 ⊢
        cases t3 with
        | true =>
          rw [if_pos rfl] at H
          obtain rfl := Option.some.inj H
          go_wp2
          go_ret
          exact ⟨rfl, by rw [← hbs]; exact F4.out⟩
        | false =>
          rw [if_neg (by decide)] at H
          obtain ⟨k0, k1, k2, k3, k4, k5, k6, k7, k8, k9, k10, k11⟩ := cells12W S4.out
          go_wp2_with fail
          clear k0 k1 k2 k3 k4 k5 k6 k7 k8 k9 k10 k11
          replace H := Option.bind_eq_some_iff.mp H
          obtain ⟨t4, A4, H⟩ := H
          refine (muleteerref07_off.calls _ _ _ t4 _ A4).mono ?_
          rintro e w' ⟨rfl, ⟨dr, rfl⟩⟩
          have S5 := Lib.hid (blk_below S4.out (pw_below_drewN (Below.refl _ _) dr))
          have F5 := Lib.hid (below_step F4.out (pw_below_drewN (Below.refl _ _) dr))
          clear S4 F4 A4
          generalize w4.drewN dr = w5 at S5 F5 ⊢
          cases t4 with
          | true =>
            rw [if_pos rfl] at H
            obtain rfl := Option.some.inj H
            go_wp2
            go_ret
            exact ⟨rfl, by rw [← hbs]; exact F5.out⟩
          | false =>
            rw [if_neg (by decide)] at H
            obtain ⟨k0, k1, k2, k3, k4, k5, k6, k7, k8, k9, k10, k11⟩ := cells12W S5.out
            go_wp2_with fail
            clear k0 k1 k2 k3 k4 k5 k6 k7 k8 k9 k10 k11
            replace H := Option.bind_eq_some_iff.mp H
            obtain ⟨t5, A5, H⟩ := H
            refine (muleteerref07_off.calls _ _ _ t5 _ A5).mono ?_
            rintro e w' ⟨rfl, ⟨dr, rfl⟩⟩
            have S6 := Lib.hid (blk_below S5.out (pw_below_drewN (Below.refl _ _) dr))
            have F6 := Lib.hid (below_step F5.out (pw_below_drewN (Below.refl _ _) dr))
            clear S5 F5 A5
            generalize w5.drewN dr = w6 at S6 F6 ⊢
            cases t5 with
            | true =>
              rw [if_pos rfl] at H
              obtain rfl := Option.some.inj H
              go_wp2
              go_ret
              exact ⟨rfl, by rw [← hbs]; exact F6.out⟩
            | false =>
              rw [if_neg (by decide)] at H
              obtain ⟨k0, k1, k2, k3, k4, k5, k6, k7, k8, k9, k10, k11⟩ := cells12W S6.out
              go_wp2_with fail
              clear k0 k1 k2 k3 k4 k5 k6 k7 k8 k9 k10 k11
              replace H := Option.bind_eq_some_iff.mp H
              obtain ⟨t6, A6, H⟩ := H
              refine (muleteerref07_off.calls _ _ _ t6 _ A6).mono ?_
              rintro e w' ⟨rfl, ⟨dr, rfl⟩⟩
              have S7 := Lib.hid (blk_below S6.out (pw_below_drewN (Below.refl _ _) dr))
              have F7 := Lib.hid (below_step F6.out (pw_below_drewN (Below.refl _ _) dr))
              clear S6 F6 A6
              generalize w6.drewN dr = w7 at S7 F7 ⊢
              cases t6 with
              | true =>
                rw [if_pos rfl] at H
                obtain rfl := Option.some.inj H
                go_wp2
                go_ret
                exact ⟨rfl, by rw [← hbs]; exact F7.out⟩
              | false =>
                rw [if_neg (by decide)] at H
                obtain ⟨k0, k1, k2, k3, k4, k5, k6, k7, k8, k9, k10, k11⟩ := cells12W S7.out
                go_wp2_with fail
                clear k0 k1 k2 k3 k4 k5 k6 k7 k8 k9 k10 k11
                replace H := Option.bind_eq_some_iff.mp H
                obtain ⟨t7, A7, H⟩ := H
                refine (muleteerref07_off.calls _ _ _ t7 _ A7).mono ?_
                rintro e w' ⟨rfl, ⟨dr, rfl⟩⟩
                have S8 := Lib.hid (blk_below S7.out (pw_below_drewN (Below.refl _ _) dr))
                have F8 := Lib.hid (below_step F7.out (pw_below_drewN (Below.refl _ _) dr))
                clear S7 F7 A7
                generalize w7.drewN dr = w8 at S8 F8 ⊢
                cases t7 with
                | true =>
                  rw [if_pos rfl] at H
                  obtain rfl := Option.some.inj H
                  go_wp2
                  go_ret
                  exact ⟨rfl, by rw [← hbs]; exact F8.out⟩
                | false =>
                  rw [if_neg (by decide)] at H
                  obtain ⟨k0, k1, k2, k3, k4, k5, k6, k7, k8, k9, k10, k11⟩ := cells12W S8.out
                  go_wp2_with fail
                  clear k0 k1 k2 k3 k4 k5 k6 k7 k8 k9 k10 k11
                  replace H := Option.bind_eq_some_iff.mp H
                  obtain ⟨t8, A8, H⟩ := H
                  refine (muleteerref07_off.calls _ _ _ t8 _ A8).mono ?_
                  rintro e w' ⟨rfl, ⟨dr, rfl⟩⟩
                  have S9 := Lib.hid (blk_below S8.out (pw_below_drewN (Below.refl _ _) dr))
                  have F9 := Lib.hid (below_step F8.out (pw_below_drewN (Below.refl _ _) dr))
                  clear S8 F8 A8
                  generalize w8.drewN dr = w9 at S9 F9 ⊢
                  cases t8 with
                  | true =>
                    rw [if_pos rfl] at H
                    obtain rfl := Option.some.inj H
                    go_wp2
                    go_ret
                    exact ⟨rfl, by rw [← hbs]; exact F9.out⟩
                  | false =>
                    rw [if_neg (by decide)] at H
                    obtain ⟨k0, k1, k2, k3, k4, k5, k6, k7, k8, k9, k10, k11⟩ := cells12W S9.out
                    go_wp2_with fail
                    clear k0 k1 k2 k3 k4 k5 k6 k7 k8 k9 k10 k11
                    replace H := Option.bind_eq_some_iff.mp H
                    obtain ⟨t9, A9, H⟩ := H
                    refine (muleteerref07_off.calls _ _ _ t9 _ A9).mono ?_
                    rintro e w' ⟨rfl, ⟨dr, rfl⟩⟩
                    have S10 := Lib.hid (blk_below S9.out (pw_below_drewN (Below.refl _ _) dr))
                    have F10 := Lib.hid (below_step F9.out (pw_below_drewN (Below.refl _ _) dr))
                    clear S9 F9 A9
                    generalize w9.drewN dr = w10 at S10 F10 ⊢
                    cases t9 with
                    | true =>
                      rw [if_pos rfl] at H
                      obtain rfl := Option.some.inj H
                      go_wp2
                      go_ret
                      exact ⟨rfl, by rw [← hbs]; exact F10.out⟩
                    | false =>
                      rw [if_neg (by decide)] at H
                      obtain ⟨k0, k1, k2, k3, k4, k5, k6, k7, k8, k9, k10, k11⟩ := cells12W S10.out
                      go_wp2_with fail
                      clear k0 k1 k2 k3 k4 k5 k6 k7 k8 k9 k10 k11
                      replace H := Option.bind_eq_some_iff.mp H
                      obtain ⟨t10, A10, H⟩ := H
                      refine (muleteerref07_off.calls _ _ _ t10 _ A10).mono ?_
                      rintro e w' ⟨rfl, ⟨dr, rfl⟩⟩
                      have S11 := Lib.hid (blk_below S10.out (pw_below_drewN (Below.refl _ _) dr))
                      have F11 := Lib.hid (below_step F10.out (pw_below_drewN (Below.refl _ _) dr))
                      clear S10 F10 A10
                      generalize w10.drewN dr = w11 at S11 F11 ⊢
                      cases t10 with
                      | true =>
                        rw [if_pos rfl] at H
                        obtain rfl := Option.some.inj H
                        go_wp2
                        go_ret
                        exact ⟨rfl, by rw [← hbs]; exact F11.out⟩
                      | false =>
                        rw [if_neg (by decide)] at H
                        obtain rfl := Option.some.inj H
                        go_wp2
                        go_ret
                        exact ⟨rfl, by rw [← hbs]; exact F11.out⟩
end Go.Proofs.Ytlfminnncfgbfaa.PDiceScripts
