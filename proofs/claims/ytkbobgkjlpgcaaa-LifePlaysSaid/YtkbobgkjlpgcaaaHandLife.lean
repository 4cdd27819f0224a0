/- A worker's life, walked by hand: Safe (whether what it is handed panics or not, or is none), Step, Exit, State, Steps. -/
import Derived.Test.YtkbobgkjlpgcaaaHand0
import Derived.Defers
import Derived.Recover
import Derived.StillTailTactics
import Derived.Deep.RegionHeld3
namespace Go.Proofs.Ytkbobgkjlpgcaaa.Hand
open Go.RowKit Go.Proofs.YtkbobgkjlpgcaaaW.PrintWords Go.Proofs.YtkbobgkjlpgcaaaW.PrintLast
set_option linter.unusedVariables false
set_option linter.unusedSimpArgs false
set_option maxRecDepth 100000

theorem safe1_panics (v : Value) (older : List PanicEntry) (w : World) :
    CallsD Try.prog 79 #[] (.panicking ({ v := v, recovered := false } :: older)) w fun e u' w' =>
      e = .returned (.tuple #[]) ∧ u' = .panicking ({ v := v, recovered := true } :: older) ∧ w' = w := by
  refine callsD_of_wpS Try.func79 rfl fun c₀ cs hu => ?_
  apply wpS_region
  simp [wpOpsS, go_sem, recoverD, hu, Try.ntmps79, bodyPostS, results, Try.results79]
theorem safe1_idle (w : World) :
    CallsD Try.prog 79 #[] .returning w fun e u' w' => e = .returned (.tuple #[]) ∧ u' = .returning ∧ w' = w := by
  refine callsD_of_wpS Try.func79 rfl fun c₀ cs hu => ?_
  apply wpS_region
  simp [wpOpsS, go_sem, recoverD, hu, Try.ntmps79, bodyPostS, results, Try.results79]
  cases c₀
  simp_all
theorem eq_none (w : World) : (binOp .eql 1 .nilFunc .nilFunc).run Try.prog w = .ok (.bool true) w := by kernel_rfl
theorem eq_some (g : Fn) (a b : Array Value) (w : World) : (binOp .eql 1 (.func g a b) .nilFunc).run Try.prog w = .ok (.bool false) w := by rfl
theorem safe_none (w : World) : Calls Try.prog 62 #[.nilFunc] w fun e w' => e = .returned (.bool false) ∧ w = w' := by
  have q0 := eq_none
  have q1 := eq_some
  go_enter_defers Try.func62, Try.ntmps62
  go_wp2
  simp [bodyPostD, Leaves, settle, results, Try.results62, go_sem]
theorem safe_ok (g : Nat) (cap : Array Value) (w : World) (R : World → Prop) (hg : Calls Try.prog g cap w fun e w' => e = .returned (.tuple #[]) ∧ R w') (he : ∀ args w, (callFunc g args).run Try.prog w = .ok (.enter g args) w) :
    Calls Try.prog 62 #[.func (.func g) #[] cap] w fun e w' => e = .returned (.bool false) ∧ R w' := by
  have hmf : ∀ (fn : Fn) (first cap : Array Value) (w : World), (Instr.makeFunc fn first cap).run Try.prog w = .ok (.func fn first cap) w := fun _ _ _ _ => rfl
  have q0 := eq_none
  have q1 := eq_some
  go_enter_defers Try.func62, Try.ntmps62
  go_wp2
  refine hg.mono ?_
  rintro e w' ⟨rfl, hR⟩
  go_wp2
  refine leaves_cons (f := 79) (args := #[]) (by simp) (by simp [go_sem]) ?_
  refine (safe1_idle _).mono ?_
  rintro e u' w'' ⟨rfl, rfl, rfl⟩
  simp [Leaves, settle, results, Try.results62, go_sem]
  exact hR
theorem safe_panics (g : Nat) (cap : Array Value) (v : Value) (w : World) (R : World → Prop) (hg : Calls Try.prog g cap w fun e w' => e = .panicked [{ v := v, recovered := false }] ∧ R w') (he : ∀ args w, (callFunc g args).run Try.prog w = .ok (.enter g args) w) :
    Calls Try.prog 62 #[.func (.func g) #[] cap] w fun e w' => e = .returned (.bool true) ∧ R w' := by
  have hmf : ∀ (fn : Fn) (first cap : Array Value) (w : World), (Instr.makeFunc fn first cap).run Try.prog w = .ok (.func fn first cap) w := fun _ _ _ _ => rfl
  have q0 := eq_none
  have q1 := eq_some
  go_enter_defers Try.func62, Try.ntmps62
  go_wp2
  refine hg.mono ?_
  rintro e w' ⟨rfl, hR⟩
  go_wp2
  refine leaves_cons (f := 79) (args := #[]) (by simp) (by simp [go_sem]) ?_
  refine (safe1_panics _ _ _).mono ?_
  rintro e u' w'' ⟨rfl, rfl, rfl⟩
  simp [Leaves, settle, results, Try.results62, go_sem]
  exact hR
/-- What is kept: all but the blocks of S and what is new since. -/
structure Fr (w W : World) (S : Nat → Prop) : Prop where
  os : W.os = w.os
  tape : W.tape = w.tape
  output : W.output = w.output
  size : w.heap.size ≤ W.heap.size
  block : ∀ i, i < w.heap.size → ¬ S i → W.heap[i]? = w.heap[i]?
theorem Fr.refl (w : World) (S : Nat → Prop) : Fr w w S := ⟨rfl, rfl, rfl, Nat.le_refl _, fun _ _ _ => rfl⟩
theorem Fr.then_ {w W W2 : World} {S S2 : Nat → Prop} (h : Fr w W S) (k : Fr W W2 S2) (hs : ∀ k, S2 k → S k ∨ w.heap.size ≤ k) : Fr w W2 S :=
  ⟨k.os.trans h.os, k.tape.trans h.tape, k.output.trans h.output, Nat.le_trans h.size k.size, fun i hi hn => (k.block i (Nat.lt_of_lt_of_le hi h.size) (fun h2 => (hs i h2).elim hn (fun h3 => by omega))).trans (h.block i hi hn)⟩
theorem Fr.mono {w W : World} {S S' : Nat → Prop} (h : Fr w W S) (hs : ∀ k, S k → S' k) : Fr w W S' := ⟨h.os, h.tape, h.output, h.size, fun i hi hn => h.block i hi (fun hk => hn (hs i hk))⟩
theorem Fr.of_below {w W : World} (h : Below w.heap.size w W) (S : Nat → Prop) : Fr w W S := ⟨h.os, h.tape, h.output, h.size, fun i hi _ => h.block i hi⟩
theorem Fr.to_below {w W : World} {S : Nat → Prop} (h : Fr w W S) (hs : ∀ k, S k → w.heap.size ≤ k) : Below w.heap.size w W := ⟨h.os, h.tape, h.output, h.size, fun i hi => h.block i hi (fun hk => by have := hs i hk; omega)⟩
theorem Fr.alloc {w W : World} {S : Nat → Prop} (h : Fr w W S) (o : Obj) : Fr w (W.alloc o) S := h.then_ (Fr.of_below (below_alloc (Below.refl _ _) o) (fun _ => False)) (fun _ hk => hk.elim)
theorem Fr.drew {w W : World} {S : Nat → Prop} (h : Fr w W S) : Fr w W.drew S := ⟨h.os, h.tape, h.output, h.size, h.block⟩
theorem Fr.setCell {w W : World} {S : Nat → Prop} (h : Fr w W S) {p : Addr} (hp : S p.block ∨ w.heap.size ≤ p.block) (u : Value) : Fr w (W.setCell p u) S :=
  h.then_ (S2 := fun k => k = p.block) ⟨rfl, rfl, rfl, by simp [World.setCell], fun i _ hn => Below.heap_setCell W p u i hn⟩ (fun k hk => by rw [hk]; exact hp)
theorem Fr.blk {w W : World} {S : Nat → Prop} (h : Fr w W S) {g : Nat} {o : Obj} (hb : w.heap[g]? = some o) (hn : ¬ S g) : W.heap[g]? = some o := (h.block g (blk_lt hb) hn).trans hb
theorem Fr.cell {w W : World} {S : Nat → Prop} (h : Fr w W S) {p : Addr} {v : Value} (hc : w.cell? p = some v) (hn : ¬ S p.block) : W.cell? p = some v := by
  have := h.block p.block (World.block_lt_of_cell? w p hc) hn
  simpa [World.cell?, this] using hc
/-- A life at block b: who, state, steps, how. -/
def IsLife (w : World) (b : Nat) (who st n how : Int) : Prop := w.heap[b]? = some (.cells #[.int .i64 who, .int .i64 st, .int .i64 n, .int .i64 how] 118 (0, 0))
theorem IsLife.cells {w : World} {b : Nat} {who st n how : Int} (h : IsLife w b who st n how) : (∀ o, w.frozen? ⟨b, o, none⟩ = false) ∧ w.cell? ⟨b, 0, none⟩ = some (.int .i64 who) ∧ w.cell? ⟨b, 1, none⟩ = some (.int .i64 st) ∧ w.cell? ⟨b, 2, none⟩ = some (.int .i64 n) ∧ w.cell? ⟨b, 3, none⟩ = some (.int .i64 how) :=
  ⟨fun o => blk_frozen h o, (blk_cell h 0).trans rfl, (blk_cell h 1).trans rfl, (blk_cell h 2).trans rfl, (blk_cell h 3).trans rfl⟩
theorem IsLife.set1 {w : World} {b : Nat} {who st n how : Int} (h : IsLife w b who st n how) (x : Int) : IsLife (w.setCell ⟨b, 1, none⟩ (.int .i64 x)) b who x n how := blk_put h 1 _ rfl
theorem IsLife.set3 {w : World} {b : Nat} {who st n how : Int} (h : IsLife w b who st n how) (x : Int) : IsLife (w.setCell ⟨b, 3, none⟩ (.int .i64 x)) b who st n x := blk_put h 3 _ rfl
theorem IsLife.set2 {w : World} {b : Nat} {who st n how : Int} (h : IsLife w b who st n how) (x : Int) : IsLife ((w.setCell ⟨b, 1, none⟩ (.int .i64 2)).setCell ⟨b, 3, none⟩ (.int .i64 x)) b who 2 n x := (h.set1 2).set3 x
theorem step1_crash (bi bl bo bs : Nat) (l : Addr) (who : Int) (w : World) (hi : w.cell? ⟨bi, 0, none⟩ = some (.bool true)) (hl : w.cell? ⟨bl, 0, none⟩ = some (.pointer (some l))) (hw : w.cell? l = some (.int .i64 who)) :
    Calls Try.prog 77 #[.pointer (some ⟨bi, 0, none⟩), .pointer (some ⟨bl, 0, none⟩), .pointer (some ⟨bs, 0, none⟩), .pointer (some ⟨bo, 0, none⟩)] w fun e w' => e = .panicked [{ v := .iface 120 (.agg #[.int .i64 who]), recovered := false }] ∧ w' = w := by
  go_enter Try.func77, Try.ntmps77
  go_wp2
  exact ⟨rfl, rfl, rfl⟩
/-- What a step does: it is called in a world in which all but b is as it was; it tells ret; d's cells become o'. -/
def StepDoes (w : World) (b g : Nat) (cap : Array Value) (ret : Bool) (d : Option Nat) (o' : Option Obj) : Prop :=
  ∀ W : World, w.heap.size ≤ W.heap.size → (∀ k, k < w.heap.size → k ≠ b → W.heap[k]? = w.heap[k]?) → Calls Try.prog g cap W fun e w' => e = .returned (.bool ret) ∧ (∀ k, d = some k → w'.heap[k]? = o') ∧ Fr W w' (fun k => d = some k)
theorem step1_ok (bi bl bo bs b g : Nat) (cap : Array Value) (ret : Bool) (d : Option Nat) (o' : Option Obj) (who st n how : Int) (w : World) (hi : w.cell? ⟨bi, 0, none⟩ = some (.bool false)) (hl : w.cell? ⟨bl, 0, none⟩ = some (.pointer (some ⟨b, 0, none⟩))) (hs : w.cell? ⟨bs, 0, none⟩ = some (.func (.func g) #[] cap))
    (ho : w.heap[bo]? = some (.cells #[.bool false] 4 (0, 0))) (hL : IsLife w b who st n how) (hn : 0 ≤ n ∧ n < 1000000) (hbo : bo ≠ b) (hbs : bs ≠ b) (hdo : d ≠ some bo) (hdb : d ≠ some b) (hst : StepDoes w b g cap ret d o') (he : ∀ args w, (callFunc g args).run Try.prog w = .ok (.enter g args) w) :
    Calls Try.prog 77 #[.pointer (some ⟨bi, 0, none⟩), .pointer (some ⟨bl, 0, none⟩), .pointer (some ⟨bs, 0, none⟩), .pointer (some ⟨bo, 0, none⟩)] w fun e w' => e = .returned (.tuple #[]) ∧ IsLife w' b who st (n + 1) how ∧ w'.heap[bo]? = some (.cells #[.bool ret] 4 (0, 0)) ∧ (∀ k, d = some k → w'.heap[k]? = o') ∧ Fr w w' (fun k => k = b ∨ k = bo ∨ d = some k) := by
  obtain ⟨hfz, hc0, hc1, hc2, hc3⟩ := hL.cells
  have HST := Lib.hid hst
  have HO := Lib.hid ho
  have HL := Lib.hid hL
  clear hst ho hL
  go_enter Try.func77, Try.ntmps77
  go_wp2
  refine (HST.out _ (by simp [World.setCell]) (fun k hk hb => Below.heap_setCell w _ _ k hb)).mono ?_
  rintro e w2 ⟨rfl, hd2, hF2⟩
  have HL2 : Hid (IsLife w2 b who st (n + 1) how) := Lib.hid (hF2.blk (blk_put HL.out 2 _ rfl) (fun e => hdb e))
  have HO2 := Lib.hid (hF2.blk (blk_far HO.out (p := ⟨b, 2, none⟩) hbo _) (fun e => hdo e))
  have HD2 := Lib.hid hd2
  have HF2 := Lib.hid hF2
  have ho0 := (blk_cell HO2.out 0).trans rfl
  have ho1 := blk_frozen HO2.out 0
  clear hd2 hF2
  go_wp2
  go_end0
  refine ⟨rfl, ?_, blk_put HO2.out 0 _ rfl, fun k hk => ?_, ?_⟩
  · exact blk_far HL2.out (p := ⟨bo, 0, none⟩) (Ne.symm hbo) _
  · exact (Below.heap_setCell w2 _ _ k (fun e => hdo (by rw [hk, e]))).trans (HD2.out k hk)
  · refine Fr.setCell ?_ (.inl (.inr (.inl rfl))) _
    exact ((Fr.refl w _).setCell (.inl (.inl rfl)) _).then_ HF2.out (fun k hk => .inl (.inr (.inr hk)))
theorem step_over (b : Nat) (who st n how : Int) (f : Value) (x : Bool) (w : World) (hL : IsLife w b who 2 n how) (g : Nat) (cap : Array Value) (hf : f = .func (.func g) #[] cap) :
    Calls Try.prog 55 #[.pointer (some ⟨b, 0, none⟩), f, .bool x] w fun e w' => e = .returned (.bool false) ∧ Below w.heap.size w w' := by
  subst hf
  obtain ⟨hfz, hc0, hc1, hc2, hc3⟩ := hL.cells
  have HL := Lib.hid hL
  have hlt0 : b < w.heap.size := blk_lt hL
  have hlt1 : b < w.heap.size + 1 := by omega
  have hlt2 : b < w.heap.size + 1 + 1 := by omega
  clear hL
  have q1 : ∀ (g : Fn) (a b : Array Value) (w : World), (binOp .eql 24 (.func g a b) .nilFunc).run Try.prog w = .ok (.bool false) w := fun _ _ _ _ => rfl
  have hmf : ∀ (fn : Fn) (first cap : Array Value) (w : World), (Instr.makeFunc fn first cap).run Try.prog w = .ok (.func fn first cap) w := fun _ _ _ _ => rfl
  go_enter Try.func55, Try.ntmps55
  go_wp2
  go_ret
  exact ⟨rfl, below_alloc (below_alloc (below_alloc (Below.refl _ _) _) _) _⟩
theorem enter77 (args : Array Value) (w : World) : (callFunc 77 args).run Try.prog w = .ok (.enter 77 args) w := enters_ Try.func77 (by kernel_rfl) rfl _ _
theorem end_any (b : Nat) (who st n how c : Int) (w : World) (hL : IsLife w b who st n how) :
    Calls Try.prog 78 #[.pointer (some ⟨b, 0, none⟩), .int .i64 c] w fun e w' => e = .returned (.tuple #[]) ∧ IsLife w' b who 2 n c ∧ Fr w w' (fun k => k = b) := by
  obtain ⟨hfz, hc0, hc1, hc2, hc3⟩ := hL.cells
  have HL := Lib.hid hL
  clear hL
  go_enter Try.func78, Try.ntmps78
  go_wp2
  go_end0
  exact ⟨rfl, HL.out.set2 c, ((Fr.refl w (fun k => k = b)).setCell (p := ⟨b, 1, none⟩) (.inl rfl) _).setCell (p := ⟨b, 3, none⟩) (.inl rfl) _⟩
/-- The world in which Step does the step. -/
def atDo (w : World) (b : Nat) (f : Value) (x : Bool) : World := ((((w.setCell ⟨b, 1, none⟩ (.int .i64 1)).alloc (.cells #[.pointer (some ⟨b, 0, none⟩)] 88)).alloc (.cells #[f] 24)).alloc (.cells #[.bool x] 4)).alloc (.cells #[.bool false] 4)
theorem atDo_all {w : World} {b : Nat} {who st n how : Int} (f : Value) (x : Bool) (hL : IsLife w b who st n how) :
    IsLife (atDo w b f x) b who 1 n how ∧ (atDo w b f x).heap[w.heap.size]? = some (.cells #[.pointer (some ⟨b, 0, none⟩)] 88 (0, 0)) ∧ (atDo w b f x).heap[w.heap.size + 1]? = some (.cells #[f] 24 (0, 0)) ∧
    (atDo w b f x).heap[w.heap.size + 1 + 1]? = some (.cells #[.bool x] 4 (0, 0)) ∧ (atDo w b f x).heap[w.heap.size + 1 + 1 + 1]? = some (.cells #[.bool false] 4 (0, 0)) ∧ Fr w (atDo w b f x) (fun k => k = b) ∧ (atDo w b f x).heap.size = w.heap.size + 4 := by
  have hs : (w.setCell ⟨b, 1, none⟩ (.int .i64 1)).heap.size = w.heap.size := by simp [World.setCell]
  have h0 := blk_new (w.setCell ⟨b, 1, none⟩ (.int .i64 1)) (.cells #[.pointer (some ⟨b, 0, none⟩)] 88)
  have h1 := blk_new ((w.setCell ⟨b, 1, none⟩ (.int .i64 1)).alloc (.cells #[.pointer (some ⟨b, 0, none⟩)] 88)) (.cells #[f] 24)
  have h2 := blk_new (((w.setCell ⟨b, 1, none⟩ (.int .i64 1)).alloc (.cells #[.pointer (some ⟨b, 0, none⟩)] 88)).alloc (.cells #[f] 24)) (.cells #[.bool x] 4)
  have h3 := blk_new ((((w.setCell ⟨b, 1, none⟩ (.int .i64 1)).alloc (.cells #[.pointer (some ⟨b, 0, none⟩)] 88)).alloc (.cells #[f] 24)).alloc (.cells #[.bool x] 4)) (.cells #[.bool false] 4)
  simp only [World.size_alloc, hs] at h0 h1 h2 h3
  refine ⟨blk_alloc (blk_alloc (blk_alloc (blk_alloc (hL.set1 1) _) _) _) _, blk_alloc (blk_alloc (blk_alloc h0 _) _) _, blk_alloc (blk_alloc h1 _) _, blk_alloc h2 _, h3, (((((Fr.refl w (fun k => k = b)).setCell (p := ⟨b, 1, none⟩) (.inl rfl) _).alloc _).alloc _).alloc _).alloc _, ?_⟩
  simp only [atDo, World.size_alloc, hs]
theorem step_crash (b : Nat) (who st n how : Int) (w : World) (hL : IsLife w b who st n how) (hst : (st == 2) = false) (g : Nat) (cap : Array Value) :
    Calls Try.prog 55 #[.pointer (some ⟨b, 0, none⟩), .func (.func g) #[] cap, .bool true] w fun e w' => e = .returned (.bool false) ∧ IsLife w' b who 2 n 2 ∧ Fr w w' (fun k => k = b) := by
  obtain ⟨hfz, hc0, hc1, hc2, hc3⟩ := hL.cells
  have HL := Lib.hid hL
  have hlt0 : b < w.heap.size := blk_lt hL
  have hlt1 : b < w.heap.size + 1 := by omega
  have hlt2 : b < w.heap.size + 1 + 1 := by omega
  have hne0 : b ≠ w.heap.size := by omega
  have hne1 : b ≠ w.heap.size + 1 := by omega
  have hne2 : b ≠ w.heap.size + 1 + 1 := by omega
  clear hL
  have q1 : ∀ (g : Fn) (a b : Array Value) (w : World), (binOp .eql 24 (.func g a b) .nilFunc).run Try.prog w = .ok (.bool false) w := fun _ _ _ _ => rfl
  have hmf : ∀ (fn : Fn) (first cap : Array Value) (w : World), (Instr.makeFunc fn first cap).run Try.prog w = .ok (.func fn first cap) w := fun _ _ _ _ => rfl
  go_enter Try.func55, Try.ntmps55
  go_wp2_with fail
  have hA := atDo_all (.func (.func g) #[] cap) true HL.out
  unfold atDo at hA
  obtain ⟨hL4, hp4, hs4, hx4, ho4, hF4, _⟩ := hA
  have c0 : Hid _ := Lib.hid ((blk_cell hx4 0).trans rfl)
  refine (safe_panics 77 _ _ _ (fun W => IsLife W b who 1 n how ∧ W.cell? ⟨w.heap.size, 0, none⟩ = some (.pointer (some ⟨b, 0, none⟩)) ∧ Fr w W (fun k => k = b)) ((step1_crash _ _ _ _ ⟨b, 0, none⟩ who _ ((blk_cell hx4 0).trans rfl) ((blk_cell hp4 0).trans rfl) hL4.cells.2.1).mono (fun e w' h => ⟨h.1, by rw [h.2]; exact ⟨hL4, (blk_cell hp4 0).trans rfl, hF4⟩⟩)) enter77).mono ?_
  rintro e w5 ⟨rfl, hL5, hp5, hF5⟩
  have HL5 := Lib.hid hL5
  have HF5 := Lib.hid hF5
  clear hL5 hF5 hL4 hp4 hs4 hx4 ho4 hF4 hfz hc0 hc1 hc2 hc3
  go_wp2_with (first
    | (go_at_call 78; refine (end_any b who 1 n how 2 _ HL5.out).mono ?_; rintro e w6 ⟨rfl, hL6, hF6⟩; obtain ⟨hfz6, d0, d1, d2, d3⟩ := hL6.cells; have HL6 := Lib.hid hL6; have HF6 := Lib.hid hF6; have hp6 := (hF6.cell hp5 (Nat.ne_of_gt hlt0)); clear hL6 hF6))
  go_ret
  exact ⟨rfl, HL6.out, HF5.out.then_ HF6.out (fun k hk => .inl hk)⟩
theorem StepDoes.later {w W : World} {b g : Nat} {cap : Array Value} {ret : Bool} {d : Option Nat} {o' : Option Obj} (h : StepDoes w b g cap ret d o') (hF : Fr w W (fun k => k = b)) : StepDoes W b g cap ret d o' :=
  fun W' hs hk => h W' (Nat.le_trans hF.size hs) (fun k hk1 hb => (hk k (Nat.lt_of_lt_of_le hk1 hF.size) hb).trans (hF.block k hk1 hb))
theorem goes_do (b : Nat) (who st n how : Int) (w : World) (hL : IsLife w b who st n how) (g : Nat) (cap : Array Value) (ret : Bool) (d : Option Nat) (o' : Option Obj) (hn : 0 ≤ n ∧ n < 1000000) (hd : ∀ k, d = some k → k < w.heap.size) (hdb : d ≠ some b) (hS : StepDoes w b g cap ret d o') (he : ∀ args w, (callFunc g args).run Try.prog w = .ok (.enter g args) w) :
    Calls Try.prog 77 #[.pointer (some ⟨w.heap.size + 1 + 1, 0, none⟩), .pointer (some ⟨w.heap.size, 0, none⟩), .pointer (some ⟨w.heap.size + 1, 0, none⟩), .pointer (some ⟨w.heap.size + 1 + 1 + 1, 0, none⟩)] (atDo w b (.func (.func g) #[] cap) false) fun e w' => e = .returned (.tuple #[]) ∧
      (IsLife w' b who 1 (n + 1) how ∧ w'.heap[w.heap.size + 1 + 1 + 1]? = some (.cells #[.bool ret] 4 (0, 0)) ∧ w'.cell? ⟨w.heap.size, 0, none⟩ = some (.pointer (some ⟨b, 0, none⟩)) ∧ (∀ k, d = some k → w'.heap[k]? = o') ∧ Fr w w' (fun k => k = b ∨ d = some k)) := by
  obtain ⟨hL4, hp4, hs4, hx4, ho4, hF4, _⟩ := atDo_all (.func (.func g) #[] cap) false hL
  have hlt : b < w.heap.size := blk_lt hL
  have ne0 : d ≠ some w.heap.size := fun e => by have := hd _ e; omega
  have ne3 : d ≠ some (w.heap.size + 1 + 1 + 1) := fun e => by have := hd _ e; omega
  refine (step1_ok _ _ _ _ b g cap ret d o' who 1 n how _ ((blk_cell hx4 0).trans rfl) ((blk_cell hp4 0).trans rfl) ((blk_cell hs4 0).trans rfl) ho4 hL4 hn (by omega) (by omega) ne3 hdb (hS.later hF4) he).mono ?_
  rintro e w' ⟨rfl, h1, h2, h3, h4⟩
  refine ⟨rfl, h1, h2, h4.cell ((blk_cell hp4 0).trans rfl) ?_, h3, (hF4.mono (fun k hk => .inl hk)).then_ h4 ?_⟩
  · rintro (h | h | h)
    · have : w.heap.size = b := h
      omega
    · have : w.heap.size = w.heap.size + 1 + 1 + 1 := h
      omega
    · exact ne0 h
  · rintro k (h | h | h)
    · exact .inl (.inl h)
    · exact .inr (by omega)
    · exact .inl (.inr h)
theorem step_goes (b : Nat) (who st n how : Int) (w : World) (hL : IsLife w b who st n how) (hst : (st == 2) = false) (g : Nat) (cap : Array Value) (ret : Bool) (d : Option Nat) (o' : Option Obj) (hn : 0 ≤ n ∧ n < 1000000) (hd : ∀ k, d = some k → k < w.heap.size) (hdb : d ≠ some b) (hS : StepDoes w b g cap ret d o') (he : ∀ args w, (callFunc g args).run Try.prog w = .ok (.enter g args) w) :
    Calls Try.prog 55 #[.pointer (some ⟨b, 0, none⟩), .func (.func g) #[] cap, .bool false] w fun e w' => e = .returned (.bool ret) ∧ IsLife w' b who (if ret = true then 1 else 2) (n + 1) (if ret = true then how else 1) ∧ (∀ k, d = some k → w'.heap[k]? = o') ∧ Fr w w' (fun k => k = b ∨ d = some k) := by
  have hdo := Lib.hid (goes_do b who st n how w hL g cap ret d o' hn hd hdb hS he)
  unfold atDo at hdo
  obtain ⟨hfz, hc0, hc1, hc2, hc3⟩ := hL.cells
  have HL := Lib.hid hL
  have HD := Lib.hid hd
  have HDB := Lib.hid hdb
  have hlt0 : b < w.heap.size := blk_lt hL
  have hlt1 : b < w.heap.size + 1 := by omega
  have hlt2 : b < w.heap.size + 1 + 1 := by omega
  have hne0 : b ≠ w.heap.size := by omega
  have hne1 : b ≠ w.heap.size + 1 := by omega
  have hne2 : b ≠ w.heap.size + 1 + 1 := by omega
  clear hL hS hd hdb
  have q1 : ∀ (g : Fn) (a b : Array Value) (w : World), (binOp .eql 24 (.func g a b) .nilFunc).run Try.prog w = .ok (.bool false) w := fun _ _ _ _ => rfl
  have hmf : ∀ (fn : Fn) (first cap : Array Value) (w : World), (Instr.makeFunc fn first cap).run Try.prog w = .ok (.func fn first cap) w := fun _ _ _ _ => rfl
  go_enter Try.func55, Try.ntmps55
  go_wp2_with fail
  refine (safe_ok 77 _ _ _ hdo.out enter77).mono ?_
  rintro e w5 ⟨rfl, hL5, ho5, hp5, hd5, hF5⟩
  have HL5 := Lib.hid hL5
  have HF5 := Lib.hid hF5
  have HD5 := Lib.hid hd5
  have hb5 := (blk_cell ho5 0).trans rfl
  obtain ⟨hfz5, d0, d1, d2, d3⟩ := hL5.cells
  clear hL5 hF5 hd5 hfz hc0 hc1 hc2 hc3 ho5
  cases ret with
  | true =>
    go_wp2
    go_ret
    exact ⟨rfl, HL5.out, HD5.out, HF5.out⟩
  | false =>
    go_wp2_with (first
      | (go_at_call 78; refine (end_any b who 1 (n + 1) how 1 _ HL5.out).mono ?_; rintro e w6 ⟨rfl, hL6, hF6⟩; obtain ⟨hfz6, e0, e1, e2, e3⟩ := hL6.cells; have HL6 := Lib.hid hL6; have HF6 := Lib.hid hF6; have hp6 := (hF6.cell hp5 (Nat.ne_of_gt hlt0)); clear hL6 hF6))
    go_ret
    refine ⟨rfl, HL6.out, fun k hk => (HF6.out.block k (Nat.lt_of_lt_of_le (HD.out k hk) HF5.out.size) (fun e => HDB.out (by rw [hk, e]))).trans (HD5.out k hk), HF5.out.then_ HF6.out (fun k hk => .inl (.inl hk))⟩
theorem of_any (who : Int) (w : World) : Calls Try.prog 53 #[.int .i64 who] w fun e w' => e = .returned (.pointer (some ⟨w.heap.size, 0, none⟩)) ∧ w' = w.alloc (.cells #[.int .i64 who, .int .i64 0, .int .i64 0, .int .i64 0] 118) := by
  go_enter Try.func53, Try.ntmps53
  go_wp2
  go_ret
  exact ⟨rfl, rfl⟩
theorem state_any (b : Nat) (who st n how : Int) (w : World) (hL : IsLife w b who st n how) : Calls Try.prog 59 #[.pointer (some ⟨b, 0, none⟩)] w fun e w' => e = .returned (.int .i64 st) ∧ w = w' := by
  obtain ⟨hfz, hc0, hc1, hc2, hc3⟩ := hL.cells
  clear hL
  go_enter Try.func59, Try.ntmps59
  go_wp2
  go_ret
  exact ⟨rfl, rfl⟩
theorem steps_any (b : Nat) (who st n how : Int) (w : World) (hL : IsLife w b who st n how) : Calls Try.prog 60 #[.pointer (some ⟨b, 0, none⟩)] w fun e w' => e = .returned (.int .i64 n) ∧ w = w' := by
  obtain ⟨hfz, hc0, hc1, hc2, hc3⟩ := hL.cells
  clear hL
  go_enter Try.func60, Try.ntmps60
  go_wp2
  go_ret
  exact ⟨rfl, rfl⟩
theorem state_nil (w : World) : Calls Try.prog 59 #[.pointer none] w fun e w' => e = .returned (.int .i64 2) ∧ w = w' := by
  go_enter Try.func59, Try.ntmps59
  go_wp2
  go_ret
  exact ⟨rfl, rfl⟩
theorem steps_nil (w : World) : Calls Try.prog 60 #[.pointer none] w fun e w' => e = .returned (.int .i64 0) ∧ w = w' := by
  go_enter Try.func60, Try.ntmps60
  go_wp2
  go_ret
  exact ⟨rfl, rfl⟩
theorem exit_nil (w : World) : Calls Try.prog 57 #[.pointer none] w fun e w' => e = .returned (.tuple #[.agg #[.int .i64 0, .int .i64 0, .int .i64 0], .bool false]) ∧ Below w.heap.size w w' := by
  go_enter Try.func57, Try.ntmps57
  go_wp2
  refine bodyPost_ret (v := .tuple #[.agg #[.int .i64 0, .int .i64 0, .int .i64 0], .bool false]) (by simp [results, Try.results57, go_sem]) rfl ⟨rfl, below_alloc (Below.refl _ _) _⟩
theorem exit_not (b : Nat) (who st n how : Int) (w : World) (hL : IsLife w b who st n how) (hst : (st != 2) = true) : Calls Try.prog 57 #[.pointer (some ⟨b, 0, none⟩)] w fun e w' => e = .returned (.tuple #[.agg #[.int .i64 0, .int .i64 0, .int .i64 0], .bool false]) ∧ Below w.heap.size w w' := by
  obtain ⟨hfz, hc0, hc1, hc2, hc3⟩ := hL.cells
  have hlt0 : b < w.heap.size := blk_lt hL
  clear hL
  go_enter Try.func57, Try.ntmps57
  go_wp2
  refine bodyPost_ret (v := .tuple #[.agg #[.int .i64 0, .int .i64 0, .int .i64 0], .bool false]) (by simp [results, Try.results57, go_sem]) rfl ⟨rfl, below_alloc (Below.refl _ _) _⟩
theorem exit_ended (b : Nat) (who n how : Int) (w : World) (hL : IsLife w b who 2 n how) : Calls Try.prog 57 #[.pointer (some ⟨b, 0, none⟩)] w fun e w' => e = .returned (.tuple #[.agg #[.int .i64 who, .int .i64 how, .int .i64 n], .bool true]) ∧ Below w.heap.size w w' := by
  obtain ⟨hfz, hc0, hc1, hc2, hc3⟩ := hL.cells
  have HL := Lib.hid hL
  have hlt0 : b < w.heap.size := blk_lt hL
  clear hL
  go_enter Try.func57, Try.ntmps57
  go_wp2
  have hL1 := Lib.hid (blk_alloc HL.out (.cells #[.int .i64 0, .int .i64 0, .int .i64 0] 96))
  have hB1 := Lib.hid (blk_new w (.cells #[.int .i64 0, .int .i64 0, .int .i64 0] 96))
  have hb1 := Lib.hid (below_alloc (Below.refl w.heap.size w) (.cells #[.int .i64 0, .int .i64 0, .int .i64 0] 96))
  clear hfz hc0 hc1 hc2 hc3
  generalize w.alloc (.cells #[.int .i64 0, .int .i64 0, .int .i64 0] 96) = W at hL1 hB1 hb1 ⊢
  obtain ⟨hfz, hc0, hc1, hc2, hc3⟩ := IsLife.cells hL1.out
  go_still_tail 13, (by kernel_rfl)
  change wpList _ _ _ _ _ W.drew
  have hL2 : Hid (IsLife W.drew b who 2 n how) := hL1
  have hB2 : Hid (W.drew.heap[w.heap.size]? = some (.cells #[.int .i64 0, .int .i64 0, .int .i64 0] 96 (0, 0))) := hB1
  have hb2 := Lib.hid (below_drew1 hb1.out)
  clear hL1 hB1 hb1 hfz hc0 hc1 hc2 hc3
  generalize W.drew = V at hL2 hB2 hb2 ⊢
  obtain ⟨hfz, hc0, hc1, hc2, hc3⟩ := IsLife.cells hL2.out
  have hx0 := (blk_cell hB2.out 0).trans rfl
  have hx1 := (blk_cell hB2.out 1).trans rfl
  have hx2 := (blk_cell hB2.out 2).trans rfl
  have hxz : ∀ o, V.frozen? ⟨w.heap.size, o, none⟩ = false := fun o => blk_frozen hB2.out o
  go_wp2
  have hlt : w.heap.size ≤ w.heap.size := Nat.le_refl _
  refine bodyPost_ret (v := .tuple #[.agg #[.int .i64 who, .int .i64 how, .int .i64 n], .bool true]) (by simp [results, Try.results57, go_sem, hx0, hx1, hx2]) rfl ⟨rfl, ?_⟩
  exact below_set (below_set (below_set hb2.out hlt) hlt) hlt
/-- The document's life at block b: who, state, steps, how. -/
def IsRef (w : World) (b : Nat) (who st n how : Int) : Prop := w.heap[b]? = some (.cells #[.int .i64 who, .int .i64 st, .int .i64 n, .int .i64 how] 92 (0, 0))
theorem IsRef.cells {w : World} {b : Nat} {who st n how : Int} (h : IsRef w b who st n how) : (∀ o, w.frozen? ⟨b, o, none⟩ = false) ∧ w.cell? ⟨b, 0, none⟩ = some (.int .i64 who) ∧ w.cell? ⟨b, 1, none⟩ = some (.int .i64 st) ∧ w.cell? ⟨b, 2, none⟩ = some (.int .i64 n) ∧ w.cell? ⟨b, 3, none⟩ = some (.int .i64 how) :=
  ⟨fun o => blk_frozen h o, (blk_cell h 0).trans rfl, (blk_cell h 1).trans rfl, (blk_cell h 2).trans rfl, (blk_cell h 3).trans rfl⟩
theorem IsRef.set1 {w : World} {b : Nat} {who st n how : Int} (h : IsRef w b who st n how) (x : Int) : IsRef (w.setCell ⟨b, 1, none⟩ (.int .i64 x)) b who x n how := blk_put h 1 _ rfl
theorem IsRef.set2 {w : World} {b : Nat} {who st n how : Int} (h : IsRef w b who st n how) (x : Int) : IsRef (w.setCell ⟨b, 2, none⟩ (.int .i64 x)) b who st x how := blk_put h 2 _ rfl
theorem IsRef.set3 {w : World} {b : Nat} {who st n how : Int} (h : IsRef w b who st n how) (x : Int) : IsRef (w.setCell ⟨b, 3, none⟩ (.int .i64 x)) b who st n x := blk_put h 3 _ rfl
theorem rstep_over (b : Nat) (who st n how : Int) (w : World) (hL : IsRef w b who 2 n how) (on crash : Bool) : Calls Try.prog 56 #[.pointer (some ⟨b, 0, none⟩), .bool on, .bool crash] w fun e w' => e = .returned (.bool false) ∧ w = w' := by
  obtain ⟨hfz, hc0, hc1, hc2, hc3⟩ := hL.cells
  clear hL
  go_enter Try.func56, Try.ntmps56
  go_wp2
  go_ret
  exact ⟨rfl, rfl⟩
theorem rstep_crash (b : Nat) (who st n how : Int) (w : World) (hL : IsRef w b who st n how) (hst : (st == 2) = false) (on : Bool) : Calls Try.prog 56 #[.pointer (some ⟨b, 0, none⟩), .bool on, .bool true] w fun e w' => e = .returned (.bool false) ∧ IsRef w' b who 2 n 2 ∧ Fr w w' (fun k => k = b) := by
  obtain ⟨hfz, hc0, hc1, hc2, hc3⟩ := hL.cells
  have HL := Lib.hid hL
  clear hL
  go_enter Try.func56, Try.ntmps56
  go_wp2
  go_ret
  exact ⟨rfl, ((HL.out.set1 1).set1 2).set3 2, (((Fr.refl w (fun k => k = b)).setCell (p := ⟨b, 1, none⟩) (.inl rfl) _).setCell (p := ⟨b, 1, none⟩) (.inl rfl) _).setCell (p := ⟨b, 3, none⟩) (.inl rfl) _⟩
theorem rstep_goes (b : Nat) (who st n how : Int) (w : World) (hL : IsRef w b who st n how) (hst : (st == 2) = false) (hn : 0 ≤ n ∧ n < 1000000) (on : Bool) : Calls Try.prog 56 #[.pointer (some ⟨b, 0, none⟩), .bool on, .bool false] w fun e w' => e = .returned (.bool on) ∧ IsRef w' b who (if on = true then 1 else 2) (n + 1) (if on = true then how else 1) ∧ Fr w w' (fun k => k = b) := by
  obtain ⟨hfz, hc0, hc1, hc2, hc3⟩ := hL.cells
  have HL := Lib.hid hL
  clear hL
  cases on with
  | true =>
    go_enter Try.func56, Try.ntmps56
    go_wp2
    go_ret
    exact ⟨rfl, (HL.out.set1 1).set2 _, ((Fr.refl w (fun k => k = b)).setCell (p := ⟨b, 1, none⟩) (.inl rfl) _).setCell (p := ⟨b, 2, none⟩) (.inl rfl) _⟩
  | false =>
    go_enter Try.func56, Try.ntmps56
    go_wp2
    go_ret
    exact ⟨rfl, (((HL.out.set1 1).set2 _).set1 2).set3 1, ((((Fr.refl w (fun k => k = b)).setCell (p := ⟨b, 1, none⟩) (.inl rfl) _).setCell (p := ⟨b, 2, none⟩) (.inl rfl) _).setCell (p := ⟨b, 1, none⟩) (.inl rfl) _).setCell (p := ⟨b, 3, none⟩) (.inl rfl) _⟩
theorem rexit_not (b : Nat) (who st n how : Int) (w : World) (hL : IsRef w b who st n how) (hst : (st != 2) = true) : Calls Try.prog 58 #[.pointer (some ⟨b, 0, none⟩)] w fun e w' => e = .returned (.tuple #[.agg #[.int .i64 0, .int .i64 0, .int .i64 0], .bool false]) ∧ Below w.heap.size w w' := by
  obtain ⟨hfz, hc0, hc1, hc2, hc3⟩ := hL.cells
  have hlt0 : b < w.heap.size := blk_lt hL
  clear hL
  go_enter Try.func58, Try.ntmps58
  go_wp2
  refine bodyPost_ret (v := .tuple #[.agg #[.int .i64 0, .int .i64 0, .int .i64 0], .bool false]) (by simp [results, Try.results58, go_sem]) rfl ⟨rfl, below_alloc (Below.refl _ _) _⟩
theorem rexit_ended (b : Nat) (who n how : Int) (w : World) (hL : IsRef w b who 2 n how) : Calls Try.prog 58 #[.pointer (some ⟨b, 0, none⟩)] w fun e w' => e = .returned (.tuple #[.agg #[.int .i64 who, .int .i64 how, .int .i64 n], .bool true]) ∧ Below w.heap.size w w' := by
  obtain ⟨hfz, hc0, hc1, hc2, hc3⟩ := hL.cells
  have HL := Lib.hid hL
  have hlt0 : b < w.heap.size := blk_lt hL
  clear hL
  go_enter Try.func58, Try.ntmps58
  go_wp2
  have hL1 := Lib.hid (blk_alloc HL.out (.cells #[.int .i64 0, .int .i64 0, .int .i64 0] 96))
  have hB1 := Lib.hid (blk_new w (.cells #[.int .i64 0, .int .i64 0, .int .i64 0] 96))
  have hb1 := Lib.hid (below_alloc (Below.refl w.heap.size w) (.cells #[.int .i64 0, .int .i64 0, .int .i64 0] 96))
  clear hfz hc0 hc1 hc2 hc3
  generalize w.alloc (.cells #[.int .i64 0, .int .i64 0, .int .i64 0] 96) = W at hL1 hB1 hb1 ⊢
  obtain ⟨hfz, hc0, hc1, hc2, hc3⟩ := IsRef.cells hL1.out
  go_still_tail 13, (by kernel_rfl)
  change wpList _ _ _ _ _ W.drew
  have hL2 : Hid (IsRef W.drew b who 2 n how) := hL1
  have hB2 : Hid (W.drew.heap[w.heap.size]? = some (.cells #[.int .i64 0, .int .i64 0, .int .i64 0] 96 (0, 0))) := hB1
  have hb2 := Lib.hid (below_drew1 hb1.out)
  clear hL1 hB1 hb1 hfz hc0 hc1 hc2 hc3
  generalize W.drew = V at hL2 hB2 hb2 ⊢
  obtain ⟨hfz, hc0, hc1, hc2, hc3⟩ := IsRef.cells hL2.out
  have hx0 := (blk_cell hB2.out 0).trans rfl
  have hx1 := (blk_cell hB2.out 1).trans rfl
  have hx2 := (blk_cell hB2.out 2).trans rfl
  have hxz : ∀ o, V.frozen? ⟨w.heap.size, o, none⟩ = false := fun o => blk_frozen hB2.out o
  go_wp2
  have hlt : w.heap.size ≤ w.heap.size := Nat.le_refl _
  refine bodyPost_ret (v := .tuple #[.agg #[.int .i64 who, .int .i64 how, .int .i64 n], .bool true]) (by simp [results, Try.results58, go_sem, hx0, hx1, hx2]) rfl ⟨rfl, ?_⟩
  exact below_set (below_set (below_set hb2.out hlt) hlt) hlt
theorem on_any (w : World) : Calls Try.prog 61 #[] w fun e w' => e = .returned (.bool true) ∧ w = w' := by
  go_enter Try.func61, Try.ntmps61
  go_wp2
  go_ret
  exact ⟨rfl, rfl⟩
theorem on_does (w : World) (b : Nat) : StepDoes w b 61 #[] true none none := fun W _ _ =>
  (on_any W).mono fun e w' h => by
    obtain ⟨h1, h2⟩ := h
    subst h2
    exact ⟨h1, fun k hk => (nomatch hk), Fr.refl _ _⟩
theorem enter_on (args : Array Value) (w : World) : (callFunc 61 args).run Try.prog w = .ok (.enter 61 args) w := enters_ Try.func61 (by kernel_rfl) rfl _ _
theorem step_on (b : Nat) (who st n how : Int) (w : World) (hL : IsLife w b who st n how) (hst : (st == 2) = false) (hn : 0 ≤ n ∧ n < 1000000) :
    Calls Try.prog 55 #[.pointer (some ⟨b, 0, none⟩), .func (.func 61) #[] #[], .bool false] w fun e w' => e = .returned (.bool true) ∧ IsLife w' b who 1 (n + 1) how ∧ Fr w w' (fun k => k = b) :=
  (step_goes b who st n how w hL hst _ #[] true none none hn (fun k hk => nomatch hk) (fun h => nomatch h) (on_does w b) enter_on).mono fun e w' h => ⟨h.1, h.2.1, h.2.2.2.mono (fun k hk => hk.elim id (fun h => nomatch h))⟩
theorem isLife_new (w : World) (who : Int) : IsLife (w.alloc (.cells #[.int .i64 who, .int .i64 0, .int .i64 0, .int .i64 0] 118)) w.heap.size who 0 0 0 := blk_new w _
theorem life_of (who : Int) (w : World) : Calls Try.prog 53 #[.int .i64 who] w fun e w' => e = .returned (.pointer (some ⟨w.heap.size, 0, none⟩)) ∧ IsLife w' w.heap.size who 0 0 0 ∧ Below w.heap.size w w' :=
  (of_any who w).mono fun e w' h => ⟨h.1, by rw [h.2]; exact ⟨isLife_new w who, below_alloc (Below.refl _ _) _⟩⟩
theorem awake18 (w : World) : Calls Try.prog 52 #[] w fun e w' => e = .returned (.bool true) ∧ Below w.heap.size w w' := by
  go_enter Try.func52, Try.ntmps52
  go_wp2_with fail
  refine (life_of 3 _).mono ?_
  rintro e w1 ⟨rfl, hL1, hB1⟩
  have HL1 := Lib.hid hL1
  have HB1 := Lib.hid hB1
  have hlt := Nat.le_refl w.heap.size
  clear hL1 hB1
  go_wp2_with fail
  refine (step_on _ 3 0 0 0 _ HL1.out rfl (by omega)).mono ?_
  rintro e w2 ⟨rfl, hL2, hF2⟩
  have HL2 := Lib.hid hL2
  have HF2 := Lib.hid hF2
  clear hL2 hF2
  go_wp2_with fail
  refine (step_on _ 3 1 1 0 _ HL2.out rfl (by omega)).mono ?_
  rintro e w3 ⟨rfl, hL3, hF3⟩
  have HL3 := Lib.hid hL3
  have HF3 := Lib.hid hF3
  clear hL3 hF3
  go_wp2_with fail
  refine (step_crash _ 3 1 2 0 _ HL3.out rfl _ _).mono ?_
  rintro e w4 ⟨rfl, hL4, hF4⟩
  have HL4 := Lib.hid hL4
  have HF4 := Lib.hid hF4
  clear hL4 hF4
  go_wp2_with fail
  refine (exit_ended _ 3 2 2 _ HL4.out).mono ?_
  rintro e w5 ⟨rfl, hB5⟩
  have HB5 := Lib.hid hB5
  clear hB5
  have HL5 := Lib.hid (blk_below HL4.out HB5.out)
  go_wp2_with fail
  refine (state_any _ 3 2 2 2 _ (blk_alloc HL5.out _)).mono ?_
  rintro e w6 ⟨rfl, rfl⟩
  go_wp2
  go_ret
  refine ⟨rfl, below_alloc ?_ _⟩
  have h : Fr w w5 (fun k => k = w.heap.size) := ((((Fr.of_below HB1.out _).then_ HF2.out (fun k hk => .inl hk)).then_ HF3.out (fun k hk => .inl hk)).then_ HF4.out (fun k hk => .inl hk)).then_ (Fr.of_below HB5.out (fun _ => False)) (fun k hk => hk.elim)
  exact h.to_below (fun k hk => Nat.le_of_eq hk.symm)
/-- A step of a life that nobody made, or that is none. -/
theorem step_nil (x : Bool) (w : World) : Calls Try.prog 55 #[.pointer none, .func (.func 61) #[] #[], .bool x] w fun e w' => e = .returned (.bool false) ∧ Below w.heap.size w w' := by
  go_enter Try.func55, Try.ntmps55
  go_wp2
  go_ret
  exact ⟨rfl, below_alloc (below_alloc (below_alloc (Below.refl _ _) _) _) _⟩
theorem step_none (b : Nat) (x : Bool) (w : World) : Calls Try.prog 55 #[.pointer (some ⟨b, 0, none⟩), .nilFunc, .bool x] w fun e w' => e = .returned (.bool false) ∧ Below w.heap.size w w' := by
  have q0 : ∀ (w : World), (binOp .eql 24 .nilFunc .nilFunc).run Try.prog w = .ok (.bool true) w := fun _ => by kernel_rfl
  go_enter Try.func55, Try.ntmps55
  go_wp2
  go_ret
  exact ⟨rfl, below_alloc (below_alloc (below_alloc (Below.refl _ _) _) _) _⟩
/-- The closure of LifeNobody: it counts. -/
theorem nobody1 (r : Nat) (n : Int) (w : World) (hr : w.heap[r]? = some (.cells #[.int .i64 n] 3 (0, 0))) (hn : 0 ≤ n ∧ n < 1000) : Calls Try.prog 63 #[.pointer (some ⟨r, 0, none⟩)] w fun e w' => e = .returned (.tuple #[]) ∧ (w'.heap[r]? = some (.cells #[.int .i64 (n + 1)] 3 (0, 0)) ∧ Fr w w' (fun k => k = r)) := by
  have hc := (blk_cell hr 0).trans rfl
  have hz := blk_frozen hr 0
  have HR := Lib.hid hr
  clear hr
  go_enter Try.func63, Try.ntmps63
  go_wp2
  go_end0
  exact ⟨rfl, blk_put HR.out 0 _ rfl, (Fr.refl w (fun k => k = r)).setCell (p := ⟨r, 0, none⟩) (.inl rfl) _⟩
theorem enter_nobody1 (args : Array Value) (w : World) : (callFunc 63 args).run Try.prog w = .ok (.enter 63 args) w := enters_ Try.func63 (by kernel_rfl) rfl _ _
theorem nobody_any (who : Int) (crash : Bool) (w : World) : Calls Try.prog 14 #[.int .i64 who, .bool crash] w fun e w' => e = .returned (.bool true) ∧ Below w.heap.size w w' := by
  have hmf : ∀ (fn : Fn) (first cap : Array Value) (w : World), (Instr.makeFunc fn first cap).run Try.prog w = .ok (.func fn first cap) w := fun _ _ _ _ => rfl
  go_enter Try.func14, Try.ntmps14
  go_wp2_with fail
  refine (exit_nil _).mono ?_
  rintro e w1 ⟨rfl, hB1⟩
  have HB := Lib.hid hB1
  clear hB1
  go_wp2_with fail
  refine (life_of who _).mono ?_
  rintro e w2 ⟨rfl, hL2, hB2⟩
  have HB2 := Lib.hid (below_step (below_alloc HB.out _) hB2)
  have HL2 := Lib.hid hL2
  have hlt : w.heap.size ≤ (w1.alloc (.cells #[.int .i64 0, .int .i64 0, .int .i64 0] 96)).heap.size := (below_alloc HB.out (.cells #[.int .i64 0, .int .i64 0, .int .i64 0] 96)).size
  have hx := Lib.hid (blk_below (blk_new w1 (.cells #[.int .i64 0, .int .i64 0, .int .i64 0] 96)) hB2)
  have hs1 : (w1.alloc (.cells #[.int .i64 0, .int .i64 0, .int .i64 0] 96)).heap.size = w1.heap.size + 1 := World.size_alloc _ _
  rw [hs1] at hlt HL2 ⊢
  clear hL2 hB2 HB hs1
  go_wp2_with fail
  refine (step_nil crash _).mono ?_
  rintro e w3 ⟨rfl, hB3⟩
  have HB3 := Lib.hid (below_step HB2.out hB3)
  have HL3 := Lib.hid (blk_below HL2.out hB3)
  have hx3 := Lib.hid (blk_below hx.out hB3)
  have hx0 := (blk_cell hx3.out 0).trans rfl
  have hx1 := (blk_cell hx3.out 1).trans rfl
  have hx2 := (blk_cell hx3.out 2).trans rfl
  clear hB3 HB2 HL2 hx
  go_wp2_with (first
    | (go_at_call 59; (with_reducible refine (state_nil _).mono ?_); rintro e w4 ⟨rfl, rfl⟩)
    | (go_at_call 60; (with_reducible refine (steps_nil _).mono ?_); rintro e w4 ⟨rfl, rfl⟩))
  refine (step_none _ crash _).mono ?_
  rintro e w4 ⟨rfl, hB4⟩
  have HB4 := Lib.hid (below_step HB3.out hB4)
  have HL4 : Hid (IsLife w4 (w1.heap.size + 1) who 0 0 0) := Lib.hid (blk_below HL3.out hB4)
  clear hB4 HB3 HL3 hx3 hx0 hx1 hx2
  go_wp2_with (first
    | (go_at_call 59; (with_reducible refine (state_any _ who 0 0 0 _ HL4.out).mono ?_); rintro e w5 ⟨rfl, rfl⟩))
  refine (safe_ok 63 _ _ _ (nobody1 _ 0 _ (blk_new _ _) (by omega)) enter_nobody1).mono ?_
  rintro e w5 ⟨rfl, hr5, hF5⟩
  have HF5 := Lib.hid (((Fr.of_below HB4.out (fun k => k = w4.heap.size)).alloc _).then_ hF5 (fun k hk => .inl hk))
  have HR5 := Lib.hid hr5
  have hs4 := HB4.out.size
  clear hr5 hF5 HB4 HL4
  go_wp2_with fail
  refine (awake18 _).mono ?_
  rintro e w6 ⟨rfl, hB6⟩
  have hr6 := (blk_cell (blk_below HR5.out hB6) 0).trans rfl
  have HF6 := Lib.hid (HF5.out.then_ (Fr.of_below hB6 (fun _ => False)) (fun k hk => hk.elim))
  clear hB6
  go_wp2_with (first
    | (go_at_call 62; (with_reducible refine (safe_none _).mono ?_); rintro e w7 ⟨rfl, rfl⟩))
  go_ret
  exact ⟨rfl, HF6.out.to_below (fun k hk => by rw [hk]; exact hs4)⟩
end Go.Proofs.Ytkbobgkjlpgcaaa.Hand
