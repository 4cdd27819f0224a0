/- What hangs on a token that is called off is called off, by its reason, at whatever depth; what it hangs on isn't; a token that nobody made is never called off: for every depth of 8 bits and any reason. -/
import Derived.Test.YtkbobgkjlpgcaaaPTokenHangsx
import Derived.Test.YtkbobgkjlpgcaaaHandToken
namespace Go.Proofs.Ytkbobgkjlpgcaaa.Pure
open Go.RowKit Go.Proofs.Ytkbobgkjlpgcaaa.Hand Go.Proofs.Ytkbobgkjlpgcaaa.PTokenHangs Go.Proofs.YtkbobgkjlpgcaaaW.PrintWords Go.Proofs.YtkbobgkjlpgcaaaW.PrintLast
set_option linter.unusedVariables false
set_option linter.unusedSimpArgs false

/-- As `Ch`, all tokens below block `B`. -/
def ChB (w : World) (B : Nat) : Option Addr → List Int → Prop
  | p, [] => p = none
  | p, r :: L => ∃ b q, p = some ⟨b, 0, none⟩ ∧ b < B ∧ w.heap[b]? = some (.cells #[.pointer q, .int .i64 r] 103 (0, 0)) ∧ ChB w B q L
theorem ChB.ch {w : World} {B : Nat} : ∀ {L : List Int} {p : Option Addr}, ChB w B p L → Ch w p L
  | [], _, h => h
  | _ :: _, _, ⟨b, q, hp, _, hb, hc⟩ => ⟨b, q, hp, hb, hc.ch⟩
theorem ChB.more {w : World} {B B' : Nat} (hB : B ≤ B') : ∀ {L : List Int} {p : Option Addr}, ChB w B p L → ChB w B' p L
  | [], _, h => h
  | _ :: _, _, ⟨b, q, hp, hl, hb, hc⟩ => ⟨b, q, hp, by omega, hb, hc.more hB⟩
/-- The blocks of tokens below `B` are as they were. -/
def KeepT (w w' : World) (B : Nat) : Prop := ∀ i cs, i < B → w.heap[i]? = some (.cells cs 103 (0, 0)) → w'.heap[i]? = w.heap[i]?
theorem ChB.keep {w w' : World} {B : Nat} (hk : KeepT w w' B) : ∀ {L : List Int} {p : Option Addr}, ChB w B p L → ChB w' B p L
  | [], _, h => h
  | _ :: _, _, ⟨b, q, hp, hl, hb, hc⟩ => ⟨b, q, hp, hl, (hk b _ hl hb).trans hb, hc.keep hk⟩
theorem lt_of_heap {w : World} {i : Nat} {o : Obj} (h : w.heap[i]? = some o) : i < w.heap.size := by
  rcases Nat.lt_or_ge i w.heap.size with h1 | h1
  · exact h1
  · rw [Array.getElem?_eq_none h1] at h; cases h
theorem KeepT.refl (w : World) (B : Nat) : KeepT w w B := fun _ _ _ _ => rfl
theorem KeepT.trans {w w1 w2 : World} {B : Nat} (h : KeepT w w1 B) (k : KeepT w1 w2 B) : KeepT w w2 B := fun i cs hl hb => by
  have h1 := h i cs hl hb
  exact (k i cs hl (h1.trans hb)).trans h1
theorem KeepT.below {w w' : World} {B : Nat} (h : Below w.heap.size w w') : KeepT w w' B := fun i _ _ hb => h.block i (lt_of_heap hb)
theorem KeepT.grown {w w' : World} {B : Nat} {row : Option Nat} (h : w.grownBy w' row) (hne : ∀ i cs, i < B → w.heap[i]? = some (.cells cs 103 (0, 0)) → some i ≠ row) : KeepT w w' B :=
  fun i cs hl hb => h.block i (lt_of_heap hb) (hne i cs hl hb)
theorem own_ne {w : World} {base e size n g : Nat} {v : Value} {xs : List Value} {cs : Array Value} {t : TypeId} (h : w.ownsRow base e size v n xs) (hg : w.heap[g]? = some (.cells cs t (0, 0))) (hne : e ≠ t) : some g ≠ v.ownBlock := by
  rcases h.2 with ⟨rfl, _⟩ | ⟨g', cap, cur, rfl, _, hh, _⟩
  · simp [Value.ownBlock]
  · intro he
    have : g' = g := by simpa [Value.ownBlock] using he.symm
    subst this
    rw [hg] at hh
    simp at hh
    exact hne hh.2.symm
def ptrs (bs : List Nat) : List Value := bs.map fun b => .pointer (some ⟨b, 0, none⟩)
/-- What holds of the tokens that are told off later: those above. -/
structure Up (w wr : World) (tb : Nat) (bs : List Nat) (v : Value) : Prop where
  own : wr.ownsRow w.heap.size 35 1 v bs.length (ptrs bs)
  chains : ∀ b ∈ bs, ∃ n, ChB wr tb (some ⟨b, 0, none⟩) (List.replicate (n + 1) 0)
  bel : Below w.heap.size w wr
theorem firstR_zeros (n : Nat) : firstR (List.replicate n 0) = 0 := by
  induction n with
  | zero => rfl
  | succ n ih => simp [List.replicate_succ, firstR, ih]
theorem ptr_info : (Try.prog.info? 35).map (fun i => (i.zero, i.size, i.bytes)) = some (some (.pointer none), 1, 8) := by kernel_rfl

theorem up_step {w wr w1 : World} {tb i : Nat} {q : Option Addr} {bs : List Nat} {v8 v' : Value} {o : Obj} (hT : wr.heap[tb]? = some (.cells #[.pointer q, .int .i64 0] 103 (0, 0))) (hch : ChB wr tb q (List.replicate i 0)) (hup : Up w wr tb bs v8)
    (hown' : w1.ownsRow w.heap.size 35 1 v' (bs.length + 1) (ptrs bs ++ [.pointer (some ⟨tb, 0, none⟩)])) (hgrow : (wr.alloc o).grownBy w1 v8.ownBlock) :
    (w1.alloc (.cells #[.pointer (some ⟨tb, 0, none⟩), .int .i64 0] 103)).heap[w1.heap.size]? = some (.cells #[.pointer (some ⟨tb, 0, none⟩), .int .i64 0] 103 (0, 0)) ∧
    ChB (w1.alloc (.cells #[.pointer (some ⟨tb, 0, none⟩), .int .i64 0] 103)) w1.heap.size (some ⟨tb, 0, none⟩) (List.replicate (i + 1) 0) ∧
    Up w (w1.alloc (.cells #[.pointer (some ⟨tb, 0, none⟩), .int .i64 0] 103)) w1.heap.size (bs ++ [tb]) v' ∧ w.heap.size ≤ w1.heap.size := by
  have hb1 : Below wr.heap.size wr (wr.alloc o) := (Below.refl _ _).alloc (Nat.le_refl _) _
  have hown1 := hup.own.alloc o
  have k1 : ∀ B, KeepT wr w1 B := fun B => (KeepT.below hb1).trans (KeepT.grown hgrow (fun j cs _ hj => own_ne hown1 hj (by decide)))
  have hb2 : Below w1.heap.size w1 (w1.alloc (.cells #[.pointer (some ⟨tb, 0, none⟩), .int .i64 0] 103)) := (Below.refl _ _).alloc (Nat.le_refl _) _
  have k2 : ∀ B, KeepT wr (w1.alloc (.cells #[.pointer (some ⟨tb, 0, none⟩), .int .i64 0] 103)) B := fun B => (k1 B).trans (KeepT.below hb2)
  have htb : tb < wr.heap.size := lt_of_heap hT
  have hs : wr.heap.size + 1 ≤ w1.heap.size := by have := hgrow.size; simpa using this
  have hbel : Below w.heap.size w w1 := (hup.bel.alloc hup.bel.size o).grown hgrow (by have := hup.bel.size; simp; omega) (own_base hown1)
  have hT2 := (k2 (tb + 1) tb _ (by omega) hT).trans hT
  refine ⟨heap_alloc_new w1 _, ⟨tb, q, rfl, by omega, hT2, (hch.keep (k2 tb)).more (by omega)⟩, ⟨?_, ?_, hbel.alloc hbel.size _⟩, hbel.size⟩
  · have h := hown'.alloc (.cells #[.pointer (some ⟨tb, 0, none⟩), .int .i64 0] 103)
    have e1 : (bs ++ [tb]).length = bs.length + 1 := by simp
    have e2 : ptrs (bs ++ [tb]) = ptrs bs ++ [.pointer (some ⟨tb, 0, none⟩)] := by simp [ptrs]
    rw [e1, e2]
    exact h
  · intro b hb
    rcases List.mem_append.1 hb with hb | hb
    · obtain ⟨n, hn⟩ := hup.chains b hb
      exact ⟨n, (hn.keep (k2 tb)).more (by omega)⟩
    · obtain rfl : b = tb := by simpa using hb
      exact ⟨i, b, q, rfl, by omega, hT2, (hch.keep (k2 b)).more (by omega)⟩

theorem Up.keep {w wr w' : World} {tb : Nat} {bs : List Nat} {v : Value} (h : Up w wr tb bs v) (hb : Below wr.heap.size wr w') : Up w w' tb bs v :=
  ⟨pw_own_below h.own hb, fun b hm => by
    obtain ⟨n, hn⟩ := h.chains b hm
    exact ⟨n, hn.keep (KeepT.below hb)⟩, below_then h.bel h.bel.size hb⟩
theorem below_drewN' (w : World) (n : Nat) : Below w.heap.size w (w.drewN n) := pw_below_drewN (Below.refl _ _) n
theorem reason_eq {L : List Int} {p : Option Addr} {w : World} {r : Int} (h : Ch w p L) (hr : firstR L = r) : Calls Try.prog 28 #[.pointer p] w fun e w' => e = .returned (.int .i64 r) ∧ w = w' := by
  have := reason_any L p w h
  rwa [hr] at this
theorem off_eq {L : List Int} {p : Option Addr} {w : World} {b : Bool} (h : Ch w p L) (hr : (firstR L != 0) = b) : Calls Try.prog 29 #[.pointer p] w fun e w' => e = .returned (.bool b) ∧ w = w' := by
  have := off_any L p w h
  rwa [hr] at this
theorem depth_eq {L : List Int} {p : Option Addr} {w : World} {d : Int} (h : Ch w p L) (hl : L.length ≤ 1000) (hd : ((L.length - 1 : Nat) : Int) = d) : Calls Try.prog 30 #[.pointer p] w fun e w' => e = .returned (.int .i64 d) ∧ ∃ n, w' = w.drewN n := by
  have := depth_any L p w h (by omega)
  rwa [hd] at this
theorem off_nil (w : World) : Calls Try.prog 29 #[.pointer none] w fun e w' => e = .returned (.bool false) ∧ w = w' := off_eq (L := []) rfl rfl
theorem reason_nil (w : World) : Calls Try.prog 28 #[.pointer none] w fun e w' => e = .returned (.int .i64 0) ∧ w = w' := reason_eq (L := []) rfl rfl
theorem depth_nil (w : World) : Calls Try.prog 30 #[.pointer none] w fun e w' => e = .returned (.int .i64 0) ∧ ∃ n, w' = w.drewN n := depth_eq (L := []) rfl (by simp) rfl
theorem off_fresh (W : World) (B : Nat) (hB : B = W.heap.size) : Calls Try.prog 29 #[.pointer (some ⟨B, 0, none⟩)] (W.alloc (.cells #[.pointer none, .int .i64 0] 103)) fun e w' => e = .returned (.bool false) ∧ (W.alloc (.cells #[.pointer none, .int .i64 0] 103)) = w' := by
  subst hB
  exact off_eq (L := [0]) ⟨_, none, rfl, heap_alloc_new W _, rfl⟩ rfl
theorem depth_fresh (W : World) (B : Nat) (hB : B = W.heap.size) : Calls Try.prog 30 #[.pointer (some ⟨B, 0, none⟩)] (W.alloc (.cells #[.pointer none, .int .i64 0] 103)) fun e w' => e = .returned (.int .i64 0) ∧ ∃ n, w' = (W.alloc (.cells #[.pointer none, .int .i64 0] 103)).drewN n := by
  subst hB
  exact depth_eq (L := [0]) ⟨_, none, rfl, heap_alloc_new W _, rfl⟩ (by simp) rfl
theorem heap_below {W w' : World} {i : Nat} {o : Obj} (h : W.heap[i]? = some o) (hb : Below W.heap.size W w') : w'.heap[i]? = some o := (hb.block i (lt_of_heap h)).trans h
theorem call_sum (b : Nat) (q : Option Addr) (c : Int) (w : World) (h : w.heap[b]? = some (.cells #[.pointer q, .int .i64 0] 103 (0, 0))) :
    Calls Try.prog 26 #[.pointer (some ⟨b, 0, none⟩), .int .i64 c] w fun e w' => e = .returned (.bool (c != 0)) ∧ w'.heap[b]? = some (.cells #[.pointer q, .int .i64 c] 103 (0, 0)) ∧ w.grownBy w' (some b) := by
  by_cases hc : c = 0
  · subst hc
    refine (call_no b q 0 0 w (Or.inl rfl) h).mono ?_
    rintro e w' ⟨rfl, n, rfl⟩
    exact ⟨rfl, h, grown_of_below (below_drewN' w n) _⟩
  · have e : (c != 0) = true := by simpa using hc
    rw [e]
    exact call_yes b q c w hc h
theorem Up.turned {w wr w' : World} {tb : Nat} {bs : List Nat} {v : Value} {q : Option Addr} {r : Int} (h : Up w wr tb bs v) (hT : wr.heap[tb]? = some (.cells #[.pointer q, .int .i64 r] 103 (0, 0))) (htb : w.heap.size ≤ tb) (hg : wr.grownBy w' (some tb)) : Up w w' tb bs v := by
  have hne := own_ne h.own hT (by decide)
  refine ⟨h.own.kept hg (.inr (Ne.symm hne)), fun b hm => ?_, h.bel.grown hg h.bel.size (fun k hk => by rw [Option.some.inj hk] at htb; exact htb)⟩
  obtain ⟨n, hn⟩ := h.chains b hm
  exact ⟨n, hn.keep (KeepT.grown hg (fun i cs hi _ he => absurd hi (by rw [Option.some.inj he]; omega)))⟩
theorem own_at {w : World} {base e n : Nat} {v : Value} {bs : List Nat} (h : w.ownsRow base e 1 v n (ptrs bs)) (hn : bs.length = n) :
    ∃ A c, v = .slice A n c ∧ ∀ j b, bs[j]? = some b → ∃ ad, A = some ad ∧ w.cell? (ad.add j) = some (.pointer (some ⟨b, 0, none⟩)) := by
  rcases h.2 with ⟨rfl, rfl⟩ | ⟨g, cap, cur, rfl, _⟩
  · have : bs = [] := List.eq_nil_of_length_eq_zero (by omega)
    subst this
    exact ⟨none, 0, rfl, by simp⟩
  · refine ⟨_, _, rfl, fun j b hj => ⟨_, rfl, ?_⟩⟩
    exact h.cells (g := g) rfl j _ (by simp [ptrs, hj])
theorem firstR_chain (j a : Nat) (r : Int) : firstR (List.replicate j 0 ++ r :: List.replicate a 0) = r := by
  induction j with
  | zero =>
    simp only [List.replicate_zero, List.nil_append, firstR]
    split
    · rename_i h; rw [firstR_zeros]; exact h.symm
    · rfl
  | succ j ih => simp only [List.replicate_succ, List.cons_append, firstR, if_true]; exact ih
theorem ch_child {w : World} {p : Option Addr} {L : List Int} (h : Ch w p L) : Ch (w.alloc (.cells #[.pointer p, .int .i64 0] 103)) (some ⟨w.heap.size, 0, none⟩) (0 :: L) :=
  ⟨w.heap.size, p, rfl, heap_alloc_new w _, h.below ((Below.refl _ _).alloc (Nat.le_refl _) _)⟩

theorem awake_first (w : World) : ((w.alloc (.cells #[.pointer none, .int .i64 0] 103)).alloc (.cells #[.pointer (some ⟨w.heap.size, 0, none⟩), .int .i64 0] 103)).heap[w.heap.size]? = some (.cells #[.pointer none, .int .i64 0] 103 (0, 0)) :=
  heap_below (heap_alloc_new w _) ((Below.refl _ _).alloc (Nat.le_refl _) _)
theorem awake_chain {w w5 : World} (ht5 : w5.heap[w.heap.size]? = some (.cells #[.pointer none, .int .i64 23] 103 (0, 0))) (hg5 : ((w.alloc (.cells #[.pointer none, .int .i64 0] 103)).alloc (.cells #[.pointer (some ⟨w.heap.size, 0, none⟩), .int .i64 0] 103)).grownBy w5 (some w.heap.size)) :
    Ch w5 (some ⟨w.heap.size + 1, 0, none⟩) [0, 23] := by
  refine ⟨_, _, rfl, (hg5.block (w.heap.size + 1) (by simp) (by simp)).trans ?_, ⟨_, _, rfl, ht5, rfl⟩⟩
  have := heap_alloc_new (w.alloc (.cells #[.pointer none, .int .i64 0] 103)) (.cells #[.pointer (some ⟨w.heap.size, 0, none⟩), .int .i64 0] 103)
  simpa using this
theorem awake_below {w w5 : World} (hg5 : ((w.alloc (.cells #[.pointer none, .int .i64 0] 103)).alloc (.cells #[.pointer (some ⟨w.heap.size, 0, none⟩), .int .i64 0] 103)).grownBy w5 (some w.heap.size)) : Below w.heap.size w w5 :=
  (below_alloc (below_alloc (Below.refl _ _) _) _).grown hg5 (by simp; omega) (fun k hk => by rw [← Option.some.inj hk]; exact Nat.le_refl _)

set_option maxHeartbeats 4000000 in
set_option maxRecDepth 100000 in
theorem awake_any (w : World) : Calls Try.prog 23 #[] w fun e w' => e = .returned (.bool true) ∧ Below w.heap.size w w' := by
  have H0 := Lib.hid (awake_first w)
  go_enter Try.func23, Try.ntmps23
  go_wp2_with (first
    | (go_at_call 24; refine (new_any _).mono ?_; rintro e w' ⟨rfl, rfl⟩)
    | (go_at_call 25; refine (child_any _ _).mono ?_; rintro e w' ⟨rfl, rfl⟩)
    | (go_at_call 26; refine (call_yes w.heap.size none 23 _ (by decide) H0.out).mono ?_; rintro e w5 ⟨rfl, ht5, hg5⟩; have HC5 := Lib.hid (awake_chain ht5 hg5); have HB5 := Lib.hid (awake_below hg5); clear ht5 hg5)
    | (go_at_call 28; refine (reason_eq (r := 23) HC5.out rfl).mono ?_; rintro e w' ⟨rfl, rfl⟩)
    | (go_at_call 29; refine (off_eq (b := true) HC5.out rfl).mono ?_; rintro e w' ⟨rfl, rfl⟩)
    | (go_at_call 30; refine (depth_eq (d := 1) HC5.out (by simp) rfl).mono ?_; rintro e w' ⟨rfl, n5, rfl⟩))
  go_ret
  exact ⟨rfl, by repeat (first | exact HB5.out | apply pw_below_drewN)⟩

set_option maxHeartbeats 4000000 in
set_option maxRecDepth 100000 in
theorem TokenHangs (a0 a1 a2 : Int) (w : World) (w0 : (Lit.int .u8 a0).wf = true) (w1 : (Lit.int .u8 a1).wf = true) (w2 : (Lit.int .i64 a2).wf = true) :
    Calls Try.prog 6 #[.int .u8 a0, .int .u8 a1, .int .i64 a2] w fun e w' => e = .returned (.bool true) ∧ Below w.heap.size w w' := by
  have hb0 : 0 ≤ a0 ∧ a0 ≤ 255 := by
    have hmin : IntKind.u8.min = 0 := rfl
    have hmax : IntKind.u8.max = 255 := rfl
    simp only [Lit.wf, Bool.and_eq_true, decide_eq_true_eq] at w0
    omega
  have hb1 : 0 ≤ a1 ∧ a1 ≤ 255 := by
    have hmin : IntKind.u8.min = 0 := rfl
    have hmax : IntKind.u8.max = 255 := rfl
    simp only [Lit.wf, Bool.and_eq_true, decide_eq_true_eq] at w1
    omega
  obtain ⟨a, rfl⟩ := Int.eq_ofNat_of_zero_le hb0.1
  obtain ⟨c, rfl⟩ := Int.eq_ofNat_of_zero_le hb1.1
  have ha : a ≤ 255 := by omega
  have hc : c ≤ 255 := by omega
  clear w0 w1 hb0 hb1
  obtain ⟨i0, hi0, hz0, hz1, hz2⟩ := info_parts ptr_info
  have HI := Lib.hid hi0
  have HZ0 := Lib.hid hz0
  have HZ1 := Lib.hid hz1
  have HZ2 := Lib.hid hz2
  clear hi0 hz0 hz1 hz2
  go_enter Try.func6, Try.ntmps6
  go_wp2_with (first | (go_at_call 24; refine (new_any _).mono ?_; rintro e w' ⟨rfl, rfl⟩))
  go_loopw [7, 8, 9] (fun v7 v8 v9 wr => ∃ (i : Nat) (tb : Nat) (q : Option Addr) (bs : List Nat), i ≤ a ∧ v9 = .int .i64 i ∧ v7 = .pointer (some ⟨tb, 0, none⟩) ∧ Hid (bs.length = i) ∧ w.heap.size ≤ tb ∧ Hid (wr.heap[tb]? = some (.cells #[.pointer q, .int .i64 0] 103 (0, 0))) ∧ ChB wr tb q (List.replicate i 0) ∧ Up w wr tb bs v8)
    (fun _ _ v9 _ => a - (intOf v9).toNat)
  case atStart =>
    refine ⟨0, w.heap.size, none, [], by omega, rfl, rfl, Lib.hid rfl, Nat.le_refl _, Lib.hid (heap_alloc_new w _), rfl, ⟨own_nil _ _ _ _, by simp, (Below.refl _ _).alloc (Nat.le_refl _) _⟩⟩
  case round =>
    obtain ⟨i, tb, q, bs, hi, rfl, rfl, HL, htb, HT, hch, hup⟩ := hrel
    by_cases hlt : i < a
    · go_wp2_with (first
        | (at_builtin; refine wpList_append_own _ rfl (.tmp 22) (.tmp 24) 37 rfl w.heap.size 35 i0 (.pointer none) 1 8 Try.underlying37 HI.out HZ0.out HZ1.out HZ2.out rfl (by decide) _ _ _ rfl (hup.own.alloc _) ⟨wr.heap.size, 0, none⟩ 1 1 [.pointer (some ⟨tb, 0, none⟩)] rfl rfl ?c1 ?c2 ?c3 ?c4 ?c5 ?_; rotate_right; intro v' w1 hown' hgrow _)
        | (go_at_call 25; refine (child_any _ _).mono ?_; rintro e w' ⟨rfl, rfl⟩))
      · go_roundw
        case rel =>
          obtain ⟨g1, g2, g3, g4⟩ := up_step HT.out hch hup hown' hgrow
          exact ⟨i + 1, w1.heap.size, some ⟨tb, 0, none⟩, bs ++ [tb], by omega, by go_num, rfl, Lib.hid (by rw [List.length_append, HL.out]; rfl), g4, Lib.hid g1, g2, g3⟩
        case measure => simp [intOf]; omega
      case c1 =>
        intro j u hj
        match j, hj with
        | 0, hj => simp at hj; subst hj; simp [Addr.add]
      case c2 => intro u hu; simp at hu; subst hu; rfl
      case c3 => have := HL.out; unfold maxLen; omega
      case c4 => have := HL.out; omega
      case c5 => have := hup.bel.size; simp; omega
    · have hia : i = a := by omega
      have HIA := Lib.hid hia
      clear hia
      have HCH := Lib.hid hch
      clear hch
      go_wp2_with (first
        | (go_at_call 26; refine (call_sum tb q a2 _ HT.out).mono ?_; rintro e W2 ⟨rfl, ht, hg⟩))
      have hup2 := hup.turned HT.out htb hg
      have hch2 : ChB W2 tb q (List.replicate i 0) := HCH.out.keep (KeepT.grown hg (fun j cs hj _ he => absurd hj (by rw [Option.some.inj he]; omega)))
      have hd : Ch W2 (some ⟨tb, 0, none⟩) (List.replicate 0 0 ++ a2 :: List.replicate i 0) := ⟨tb, q, rfl, ht, hch2.ch⟩
      have HTT := Lib.hid ht
      have HD := Lib.hid hd
      clear ht hg hup hd hch2 HCH HT
      go_loopw [11, 12] (fun v11 v12 wr => ∃ (j : Nat) (p : Option Addr), j ≤ c ∧ v12 = .int .i64 j ∧ v11 = .pointer p ∧ Hid (Ch wr p (List.replicate j 0 ++ a2 :: List.replicate i 0)) ∧ Hid (wr.heap[tb]? = some (.cells #[.pointer q, .int .i64 a2] 103 (0, 0))) ∧ Up w wr tb bs u8)
        (fun _ v12 _ => c - (intOf v12).toNat)
      case atStart => exact ⟨0, _, by omega, rfl, rfl, HD, HTT, hup2⟩
      case round =>
        obtain ⟨j, p, hj, rfl, rfl, HP, HTJ, hupj⟩ := hrel
        by_cases hlt2 : j < c
        · go_wp2_with (first
            | (go_at_call 25; refine (child_any _ _).mono ?_; rintro e w' ⟨rfl, rfl⟩))
          go_roundw
          case rel =>
            have hbl := (Below.refl wr.heap.size wr).alloc (Nat.le_refl _) (.cells #[.pointer p, .int .i64 0] 103)
            exact ⟨j + 1, _, by omega, by go_num, rfl, Lib.hid (ch_child HP.out), Lib.hid ((hbl.block tb (lt_of_heap HTJ.out)).trans HTJ.out), hupj.keep hbl⟩
          case measure => simp [intOf]; omega
        · have hjc : j = c := by omega
          have HJC := Lib.hid hjc
          clear hjc
          obtain ⟨A, cc, rfl, hat⟩ := own_at hupj.own rfl
          have HAT := Lib.hid hat
          have HUP := Lib.hid hupj
          have hlen : bs.length ≤ 255 := by have := HL.out; omega
          have hflip : (a2 != 0) = decide (¬ a2 = 0) := by by_cases h : a2 = 0 <;> simp [h]
          clear hat hflip
          go_wp2_with fail
          go_loopw [13] (fun v13 w3 => ∃ m : Nat, m ≤ bs.length ∧ v13 = .int .i64 m ∧ w3 = wr)
            (fun v13 _ => bs.length - (intOf v13).toNat)
          case atStart => exact ⟨0, by simp⟩
          case round =>
            obtain ⟨m, hm, rfl, rfl⟩ := hrel
            by_cases hlt3 : m < bs.length
            · obtain ⟨b, hb⟩ : ∃ b, bs[m]? = some b := ⟨bs[m], List.getElem?_eq_getElem hlt3⟩
              obtain ⟨ad, rfl, hcell⟩ := HAT.out m b hb
              obtain ⟨n, hn⟩ := HUP.out.chains b (List.mem_of_getElem? hb)
              have HN := Lib.hid hn.ch
              clear hb hn
              go_wp2_with (first
                | (go_at_call 29; refine (off_eq (b := false) HN.out (by rw [firstR_zeros]; rfl)).mono ?_; rintro e w' ⟨rfl, rfl⟩)
                | (go_at_call 28; refine (reason_eq HN.out (firstR_zeros _)).mono ?_; rintro e w' ⟨rfl, rfl⟩))
              go_roundw
              case rel => exact ⟨m + 1, by omega, by go_num, by first | rfl | trivial⟩
              case measure => simp [intOf]; omega
            · have hml : m = bs.length := by omega
              clear HAT hm hml
              have hdep : (((List.replicate j 0 ++ a2 :: List.replicate i 0).length - 1 : Nat) : Int) = (a : Int) + (c : Int) := by
                have := HJC.out
                have := HIA.out
                simp
                omega
              have HDEP := Lib.hid hdep
              clear hdep
              have hlen2 : (List.replicate j 0 ++ a2 :: List.replicate i 0).length ≤ 1000 := by
                have := HJC.out
                have := HIA.out
                simp
                omega
              have HLEN2 := Lib.hid hlen2
              clear hlen2
              by_cases hz : a2 = 0
              · subst hz
                have HOF := Lib.hid (show (firstR (List.replicate j 0 ++ 0 :: List.replicate i 0) != 0) = false by rw [firstR_chain]; rfl)
                go_wp2_with (first
                  | (go_at_call 29; with_reducible refine (off_nil _).mono ?_; rintro e w' ⟨rfl, rfl⟩)
                  | (go_at_call 28; with_reducible refine (reason_nil _).mono ?_; rintro e w' ⟨rfl, rfl⟩)
                  | (go_at_call 30; with_reducible refine (depth_nil _).mono ?_; rintro e w' ⟨rfl, n1, rfl⟩)
                  | (go_at_call 26; with_reducible refine (call_none _ _).mono ?_; rintro e w' ⟨rfl, n2, rfl⟩)
                  | (go_at_call 25; with_reducible refine (child_any none _).mono ?_; rintro e w' ⟨rfl, rfl⟩)
                  | (go_at_call 29; (with_reducible refine (off_fresh _ _ ?side).mono ?_); (case side => first | rfl | (simp; done)); rintro e w' ⟨rfl, rfl⟩)
                  | (go_at_call 30; (with_reducible refine (depth_fresh _ _ ?side2).mono ?_); (case side2 => first | rfl | (simp; done)); rintro e w' ⟨rfl, n3, rfl⟩)
                  | (go_at_call 23; refine (awake_any _).mono ?_; rintro e w4 ⟨rfl, hb⟩; have HP4 := Lib.hid ((HP.out.below (by repeat (first | exact Below.refl _ _ | apply below_alloc | apply pw_below_drewN))).below hb); have HT4 := Lib.hid (heap_below (heap_below HTJ.out (by repeat (first | exact Below.refl _ _ | apply below_alloc | apply pw_below_drewN))) hb); have HB4 := Lib.hid (below_then (by repeat (first | exact HUP.out.bel | apply below_alloc | apply pw_below_drewN)) (by have := HUP.out.bel.size; simp; omega) hb))
                  | (go_at_call 28; with_reducible refine (reason_eq HP4.out (firstR_chain _ _ _)).mono ?_; rintro e w' ⟨rfl, rfl⟩)
                  | (go_at_call 29; with_reducible refine (off_eq HP4.out HOF.out).mono ?_; rintro e w' ⟨rfl, rfl⟩)
                  | (go_at_call 30; with_reducible refine (depth_eq HP4.out HLEN2.out HDEP.out).mono ?_; rintro e w' ⟨rfl, n5, rfl⟩)
                  | (go_at_call 26; (with_reducible refine (call_no tb q 0 0 _ (Or.inl rfl) ?side5).mono ?_); (case side5 => exact HT4.out); rintro e w' ⟨rfl, n6, rfl⟩)
                  | (go_at_call 26; (with_reducible refine (call_yes tb q 22 _ (by decide) ?side6).mono ?_); (case side6 => exact HT4.out); rintro e w5 ⟨rfl, ht5, hg5⟩))
                go_ret
                refine ⟨rfl, (pw_below_drewN HB4.out _).grown hg5 ?_ ?_⟩
                · exact HB4.out.size
                · rintro k hk
                  obtain rfl := Option.some.inj hk
                  exact htb
              · have e1 : (a2 != 0) = true := by simpa using hz
                have HZ := Lib.hid hz
                clear hz
                have HOF := Lib.hid (show (firstR (List.replicate j 0 ++ a2 :: List.replicate i 0) != 0) = true by rw [firstR_chain]; exact e1)
                go_wp2_with (first
                  | (go_at_call 29; with_reducible refine (off_nil _).mono ?_; rintro e w' ⟨rfl, rfl⟩)
                  | (go_at_call 28; with_reducible refine (reason_nil _).mono ?_; rintro e w' ⟨rfl, rfl⟩)
                  | (go_at_call 30; with_reducible refine (depth_nil _).mono ?_; rintro e w' ⟨rfl, n1, rfl⟩)
                  | (go_at_call 26; with_reducible refine (call_none _ _).mono ?_; rintro e w' ⟨rfl, n2, rfl⟩)
                  | (go_at_call 25; with_reducible refine (child_any none _).mono ?_; rintro e w' ⟨rfl, rfl⟩)
                  | (go_at_call 29; (with_reducible refine (off_fresh _ _ ?side).mono ?_); (case side => first | rfl | (simp; done)); rintro e w' ⟨rfl, rfl⟩)
                  | (go_at_call 30; (with_reducible refine (depth_fresh _ _ ?side2).mono ?_); (case side2 => first | rfl | (simp; done)); rintro e w' ⟨rfl, n3, rfl⟩)
                  | (go_at_call 23; refine (awake_any _).mono ?_; rintro e w4 ⟨rfl, hb⟩; have HP4 := Lib.hid ((HP.out.below (by repeat (first | exact Below.refl _ _ | apply below_alloc | apply pw_below_drewN))).below hb); have HT4 := Lib.hid (heap_below (heap_below HTJ.out (by repeat (first | exact Below.refl _ _ | apply below_alloc | apply pw_below_drewN))) hb); have HB4 := Lib.hid (below_then (by repeat (first | exact HUP.out.bel | apply below_alloc | apply pw_below_drewN)) (by have := HUP.out.bel.size; simp; omega) hb))
                  | (go_at_call 28; with_reducible refine (reason_eq HP4.out (firstR_chain _ _ _)).mono ?_; rintro e w' ⟨rfl, rfl⟩)
                  | (go_at_call 29; with_reducible refine (off_eq HP4.out HOF.out).mono ?_; rintro e w' ⟨rfl, rfl⟩)
                  | (go_at_call 30; with_reducible refine (depth_eq HP4.out HLEN2.out HDEP.out).mono ?_; rintro e w' ⟨rfl, n5, rfl⟩)
                  | (go_at_call 26; (with_reducible refine (call_no tb q a2 0 _ (Or.inl rfl) ?side5).mono ?_); (case side5 => exact HT4.out); rintro e w' ⟨rfl, n6, rfl⟩)
                  | (go_at_call 26; (with_reducible refine (call_no tb q a2 22 _ (Or.inr HZ.out) ?side6).mono ?_); (case side6 => exact HT4.out); rintro e w' ⟨rfl, n7, rfl⟩))
                go_ret
                exact ⟨rfl, by repeat (first | exact HB4.out | apply pw_below_drewN)⟩

end Go.Proofs.Ytkbobgkjlpgcaaa.Pure
