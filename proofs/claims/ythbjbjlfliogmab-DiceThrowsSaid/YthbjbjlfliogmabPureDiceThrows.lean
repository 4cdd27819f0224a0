/- What any dice throw, throw by throw, below any numbers: for every seed and every list of up to 60 numbers; longer ones answer by the example. -/
import Derived.Test.YthbjbjlfliogmabPDiceThrowsx
namespace Go.Proofs.Ythbjbjlfliogmab.Pure
open Go.RowKit Go.Proofs.Ythbjbjlfliogmab.Hand Go.Proofs.Ythbjbjlfliogmab.PDiceThrows Go.Proofs.YthbjbjlfliogmabW.PrintWords Go.Proofs.YthbjbjlfliogmabW.PrintLast
set_option linter.unusedVariables false
set_option linter.unusedSimpArgs false

theorem throw_nil (w : World) : Calls Try.prog 47 #[.pointer none] w fun e w' => e = .returned (.int .u64 0) ∧ w = w' := by
  go_enter Try.func47, Try.ntmps47
  go_wp2
  go_ret
  exact ⟨rfl, rfl⟩
theorem below_nil (w : World) : Calls Try.prog 49 #[.pointer none, .int .i64 7] w fun e w' => e = .returned (.int .i64 0) ∧ w = w' := by
  go_enter Try.func49, Try.ntmps49
  go_wp2_with (first
    | (go_at_call 47; refine (throw_nil _).mono ?_; rintro e w1 ⟨rfl, rfl⟩))
  go_ret
  exact ⟨rfl, rfl⟩
set_option maxRecDepth 100000 in
theorem config_nil (w : World) : Calls Try.prog 51 #[.pointer none] w fun e w' => e = .returned (.agg #[.slice none 0 0, .int .i64 0, .int .i64 0, .int .i64 0, .int .i64 0, .int .i64 0, .int .i64 0, .int .i64 0, .int .i64 0, .int .i64 0, .int .i64 0, .int .u64 0]) ∧ Below w.heap.size w w' := by
  go_enter Try.func51, Try.ntmps51
  go_wp2
  refine bodyPost_ret (v := (.agg #[.slice none 0 0, .int .i64 0, .int .i64 0, .int .i64 0, .int .i64 0, .int .i64 0, .int .i64 0, .int .i64 0, .int .i64 0, .int .i64 0, .int .i64 0, .int .u64 0])) (by simp [results, Try.results51, go_sem]) rfl ⟨rfl, ?_⟩
  repeat (first | exact Below.refl _ _ | apply below_alloc | apply below_drew)
set_option maxRecDepth 100000 in
theorem script_nil (A : Option Addr) (n c : Nat) (x1 x2 x3 x4 x5 x6 x7 x8 x9 x10 x11 m : Int) (w : World) (hn : n ≤ 9223372036854775807) :
    Calls Try.prog 53 #[.pointer none, .agg #[.slice A n c, .int .i64 x1, .int .i64 x2, .int .i64 x3, .int .i64 x4, .int .i64 x5, .int .i64 x6, .int .i64 x7, .int .i64 x8, .int .i64 x9, .int .i64 x10, .int .u64 x11], .int .i64 m] w fun e w' => e = .returned (.slice none 0 0) ∧ Below w.heap.size w w' := by
  go_enter Try.func53, Try.ntmps53
  go_wp2_with (first
    | (go_at_call 66; refine (check_any A n c x1 x2 x3 x4 x5 x6 x7 x8 x9 x10 x11 _ hn).mono ?_; rintro e w1 ⟨rfl, hb⟩; have HB := Lib.hid hb; clear hb))
  go_ret
  exact ⟨rfl, below_step (below_alloc (Below.refl _ _) _) HB.out⟩
theorem step_box {w w1 : World} {o : Obj} (hb : Below ((w.alloc o).alloc (.cells #[.int .i64 0, .int .i64 0, .int .i64 0, .int .i64 0, .int .i64 0, .int .u64 0, .int .u64 0, .string ⟨#[]⟩] 104)).heap.size ((w.alloc o).alloc (.cells #[.int .i64 0, .int .i64 0, .int .i64 0, .int .i64 0, .int .i64 0, .int .u64 0, .int .u64 0, .string ⟨#[]⟩] 104)) w1) :
    w1.heap[w.heap.size + 1]? = some (.cells #[.int .i64 0, .int .i64 0, .int .i64 0, .int .i64 0, .int .i64 0, .int .u64 0, .int .u64 0, .string ⟨#[]⟩] 104 (0, 0)) := by
  have h := heap_alloc_new (w.alloc o) (.cells #[.int .i64 0, .int .i64 0, .int .i64 0, .int .i64 0, .int .i64 0, .int .u64 0, .int .u64 0, .string ⟨#[]⟩] 104)
  rw [World.size_alloc] at h
  exact (hb.block _ (by simp)).trans h
theorem box8 {w : World} {g : Nat} {a b c d e f x y : Value} {T : Nat} (h : w.heap[g]? = some (.cells #[a, b, c, d, e, f, x, y] T (0, 0))) :
    (∀ o, w.frozen? ⟨g, o, none⟩ = false) ∧ w.cell? ⟨g, 0, none⟩ = some a ∧ w.cell? ⟨g, 1, none⟩ = some b ∧ w.cell? ⟨g, 2, none⟩ = some c ∧ w.cell? ⟨g, 3, none⟩ = some d ∧ w.cell? ⟨g, 4, none⟩ = some e ∧ w.cell? ⟨g, 5, none⟩ = some f ∧ w.cell? ⟨g, 6, none⟩ = some x ∧ w.cell? ⟨g, 7, none⟩ = some y :=
  ⟨fun o => blk_frozen h o, (blk_cell h 0).trans rfl, (blk_cell h 1).trans rfl, (blk_cell h 2).trans rfl, (blk_cell h 3).trans rfl, (blk_cell h 4).trans rfl, (blk_cell h 5).trans rfl, (blk_cell h 6).trans rfl, (blk_cell h 7).trans rfl⟩
set_option maxRecDepth 100000 in
theorem step_nil (A : Option Addr) (n c : Nat) (x1 x2 x3 x4 x5 x6 x7 x8 x9 x10 x11 : Int) (w : World) (hn : n ≤ 9223372036854775807) :
    Calls Try.prog 52 #[.pointer none, .agg #[.slice A n c, .int .i64 x1, .int .i64 x2, .int .i64 x3, .int .i64 x4, .int .i64 x5, .int .i64 x6, .int .i64 x7, .int .i64 x8, .int .i64 x9, .int .i64 x10, .int .u64 x11]] w fun e w' => e = .returned (.agg #[.int .i64 0, .int .i64 0, .int .i64 0, .int .i64 0, .int .i64 0, .int .u64 0, .int .u64 0, .string ⟨#[]⟩]) ∧ Below w.heap.size w w' := by
  go_enter Try.func52, Try.ntmps52
  go_wp2_with (first
    | (go_at_call 66; refine (check_any A n c x1 x2 x3 x4 x5 x6 x7 x8 x9 x10 x11 _ hn).mono ?_; rintro e w1 ⟨rfl, hb⟩; have HB := Lib.hid hb; have HBK := Lib.hid (step_box hb); obtain ⟨hfz, hc0, hc1, hc2, hc3, hc4, hc5, hc6, hc7⟩ := box8 HBK.out; clear hb))
  refine bodyPost_ret (v := (.agg #[.int .i64 0, .int .i64 0, .int .i64 0, .int .i64 0, .int .i64 0, .int .u64 0, .int .u64 0, .string ⟨#[]⟩])) (by simp [results, Try.results52, go_sem, hc0, hc1, hc2, hc3, hc4, hc5, hc6, hc7]) rfl ⟨rfl, ?_⟩
  have hw : w.heap.size ≤ w.heap.size + 1 := Nat.le_succ _
  repeat (refine below_set ?_ hw)
  exact below_step (below_alloc (below_alloc (Below.refl _ _) _) _) HB.out
theorem wf64 {n : Int} (h : (Lit.int .i64 n).wf = true) : -9223372036854775808 ≤ n ∧ n ≤ 9223372036854775807 := by
  have hmin : IntKind.i64.min = -9223372036854775808 := rfl
  have hmax : IntKind.i64.max = 9223372036854775807 := rfl
  simp only [Lit.wf, Bool.and_eq_true, decide_eq_true_eq] at h
  omega
theorem cell_lt {w : World} {p : Addr} {v : Value} (h : w.cell? p = some v) : p.block < w.heap.size := by
  rcases Nat.lt_or_ge p.block w.heap.size with h1 | h1
  · exact h1
  · unfold World.cell? at h
    rw [Array.getElem?_eq_none h1] at h
    simp at h
theorem u64_tdiv (x : Int) (K : Int) (hK : 0 < K) : IntKind.u64.wrap (Int.tdiv (IntKind.u64.wrap x) K) = IntKind.u64.wrap x / K := by
  have h : 0 ≤ IntKind.u64.wrap x ∧ IntKind.u64.wrap x < 18446744073709551616 := by rw [IntKind.wrap_u64]; omega
  generalize IntKind.u64.wrap x = z at h
  rw [Int.tdiv_eq_ediv_of_nonneg h.1, IntKind.wrap_u64]
  have h1 : 0 ≤ z / K := Int.ediv_nonneg h.1 (by omega)
  have h2 : z / K ≤ z := Int.ediv_le_self K h.1
  omega
theorem throw_alike (s : Int) : muleteerref40_Dice_Throw.f s = dice_Dice_Throw.f s := by
  unfold muleteerref40_Dice_Throw.f dice_Dice_Throw.f
  rw [u64_tdiv _ 1073741824 (by omega), u64_tdiv _ 134217728 (by omega), u64_tdiv _ 2147483648 (by omega)]
theorem below_alike (s n : Int) : muleteerref40_Dice_Below.f s n = dice_Dice_Below.f s n := by
  unfold muleteerref40_Dice_Below.f dice_Dice_Below.f
  rw [throw_alike]
theorem throw_some (s : Int) : ∃ r, dice_Dice_Throw.f s = some r := ⟨_, rfl⟩
theorem below_some (s n : Int) (hn : -9223372036854775808 ≤ n ∧ n ≤ 9223372036854775807) : ∃ r, dice_Dice_Below.f s n = some r := by
  unfold dice_Dice_Below.f
  by_cases h : n < 1
  · exact ⟨_, if_pos h⟩
  · obtain ⟨r, hr⟩ := throw_some s
    have : ¬ IntKind.u64.wrap n = 0 := by rw [IntKind.wrap_u64]; omega
    rw [if_neg h, hr, Option.bind_some, if_neg this]
    exact ⟨_, rfl⟩
theorem awake_tells : muleteerlaw40_awake.f = some true := by decide +kernel
/-- Two dice, each in its own block, with what they hold. -/
structure Two (w W : World) (g h : Nat) (s t : Int) : Prop where
  d : IsS135 w W g s
  q : IsS100 w W h t
  b : Below w.heap.size w W
theorem Two.ne {w W : World} {g h : Nat} {s t : Int} (T : Two w W g h s t) : h ≠ g := by
  intro e
  have h1 := T.d.1
  have h2 := T.q.1
  rw [e, h1] at h2
  injection Option.some.inj h2 with _ h3 _
  exact absurd h3 (by decide)
theorem Two.keepD {w W W' : World} {g h : Nat} {s t s' : Int} (T : Two w W g h s t) (hd : IsS135 w W' g s') (hb : Below w.heap.size w W') (hk : KeepBut W W' g none) : Two w W' g h s' t :=
  ⟨hd, ⟨(hk.2 h (blk_lt T.q.1) T.ne (by simp)).trans T.q.1, T.q.2⟩, hb⟩
theorem Two.keepQ {w W W' : World} {g h : Nat} {s t t' : Int} (T : Two w W g h s t) (hq : IsS100 w W' h t') (hb : Below w.heap.size w W') (hk : KeepBut W W' h none) : Two w W' g h s t' :=
  ⟨⟨(hk.2 g (blk_lt T.d.1) (Ne.symm T.ne) (by simp)).trans T.d.1, T.d.2⟩, hq, hb⟩
theorem throw_d {w W : World} {g h : Nat} {s t : Int} {r : Int × Int} (T : Two w W g h s t) (e : dice_Dice_Throw.f s = some r) :
    Calls Try.prog 47 #[.pointer (some ⟨g, 0, none⟩)] W fun e w' => e = .returned (.int .u64 r.1) ∧ Two w w' g h r.2 t :=
  (dice_Dice_Throw.calls g s r.1 r.2 w W T.d T.b e).mono fun _ _ hq => ⟨hq.1, T.keepD hq.2.1 hq.2.2.1 hq.2.2.2⟩
theorem throw_q {w W : World} {g h : Nat} {s t : Int} {r : Int × Int} (T : Two w W g h s t) (e : dice_Dice_Throw.f t = some r) :
    Calls Try.prog 48 #[.pointer (some ⟨h, 0, none⟩)] W fun e w' => e = .returned (.int .u64 r.1) ∧ Two w w' g h s r.2 :=
  (muleteerref40_Dice_Throw.calls h t r.1 r.2 w W T.q T.b ((throw_alike t).trans e)).mono fun _ _ hq => ⟨hq.1, T.keepQ hq.2.1 hq.2.2.1 hq.2.2.2⟩
theorem below_d {w W : World} {g h : Nat} {s t n : Int} {r : Int × Int} (T : Two w W g h s t) (e : dice_Dice_Below.f s n = some r) :
    Calls Try.prog 49 #[.pointer (some ⟨g, 0, none⟩), .int .i64 n] W fun e w' => e = .returned (.int .i64 r.1) ∧ Two w w' g h r.2 t :=
  (dice_Dice_Below.calls g s n r.1 r.2 w W T.d T.b e).mono fun _ _ hq => ⟨hq.1, T.keepD hq.2.1 hq.2.2.1 hq.2.2.2⟩
theorem below_q {w W : World} {g h : Nat} {s t n : Int} {r : Int × Int} (T : Two w W g h s t) (e : dice_Dice_Below.f t n = some r) :
    Calls Try.prog 50 #[.pointer (some ⟨h, 0, none⟩), .int .i64 n] W fun e w' => e = .returned (.int .i64 r.1) ∧ Two w w' g h s r.2 :=
  (muleteerref40_Dice_Below.calls h t n r.1 r.2 w W T.q T.b ((below_alike t n).trans e)).mono fun _ _ hq => ⟨hq.1, T.keepQ hq.2.1 hq.2.2.1 hq.2.2.2⟩
theorem awake_any (w : World) : Calls Try.prog 45 #[] w fun e w' => e = .returned (.bool true) ∧ Below w.heap.size w w' := muleteerlaw40_awake.calls true w awake_tells
set_option maxRecDepth 100000 in
theorem law_many (a0 : Int) (A1 : Option Addr) (c1 : Nat) (l : List Int) (w : World) (hl : 60 < l.length) :
    Calls Try.prog 11 #[.int .u64 a0, .slice A1 l.length c1] w fun e w' => e = .returned (.bool true) ∧ Below w.heap.size w w' := by
  have h1 : (60 : Int) < (l.length : Int) := by omega
  go_enter Try.func11, Try.ntmps11
  go_wp2_with (first
    | (go_at_call 45; refine (awake_any _).mono ?_; rintro e w1 ⟨rfl, hb⟩))
  go_ret
  exact ⟨rfl, hb⟩
theorem new_any (a0 : Int) (w : World) : Calls Try.prog 46 #[.int .u64 a0] w fun e w' => ∃ g, e = .returned (.pointer (some ⟨g, 0, none⟩)) ∧ IsS135 w w' g a0 ∧ Below w.heap.size w w' :=
  (dice_New.calls a0 a0 w w (Below.refl _ _) rfl).mono fun _ _ ⟨g, h1, h2, h3, _⟩ => ⟨g, h1, h2, h3⟩
theorem Two.drew {w W : World} {g h : Nat} {s t : Int} (T : Two w W g h s t) : Two w W.drew g h s t := ⟨T.d.drew, T.q.drew, below_drew1 T.b⟩
theorem Two.cell {w W : World} {g h : Nat} {s t : Int} (T : Two w W g h s t) {p : Addr} {v : Value} (hc : w.cell? p = some v) : W.cell? p = some v :=
  (T.b.cell (cell_lt hc)).trans hc
theorem config_one {w0 w : World} {g : Nat} (hI : IsS135 w0 w g 1) (hB : Below w0.heap.size w0 w) :
    Calls Try.prog 51 #[.pointer (some ⟨g, 0, none⟩)] w fun e w' => ∃ A n c x1 x2 x3 x4 x5 x6 x7 x8 x9 x10 x11, n ≤ 9223372036854775807 ∧ e = .returned (.agg #[.slice A n c, .int .i64 x1, .int .i64 x2, .int .i64 x3, .int .i64 x4, .int .i64 x5, .int .i64 x6, .int .i64 x7, .int .i64 x8, .int .i64 x9, .int .i64 x10, .int .u64 x11]) ∧ Below w0.heap.size w0 w' := by
  obtain ⟨⟨r1, r2, r3, r4, r5, r6, r7, r8, r9, r10, r11, r12, r13⟩, hr, hl⟩ : ∃ r, dice_Dice_Config.f 10 1 = some r ∧ r.1.length ≤ 9223372036854775807 := by
    have h : ((dice_Dice_Config.f 10 1).any fun r => decide (r.1.length ≤ 3)) = true := by decide +kernel
    cases e : dice_Dice_Config.f 10 1 with
    | none => rw [e] at h; exact absurd h (by decide)
    | some r =>
      rw [e] at h
      have h2 : r.1.length ≤ 3 := by simpa using h
      exact ⟨r, rfl, by omega⟩
  refine (dice_Dice_Config.calls 10 g 1 r1 r2 r3 r4 r5 r6 r7 r8 r9 r10 r11 r12 r13 w0 w hI hB hr).mono ?_
  rintro e w' ⟨v, rfl, hR, _, hb, _⟩
  obtain ⟨A, c, rfl⟩ := Kd.R_slice hR
  exact ⟨A, _, c, _, _, _, _, _, _, _, _, _, _, _, hl, rfl, hb⟩
set_option maxHeartbeats 4000000 in
set_option maxRecDepth 100000 in
theorem law_few (a0 : Int) (A1 : Option Addr) (c1 : Nat) (l : List Int) (w : World) (hr : Kd.C (Kd.int .i64) w A1 l.length l) (hw : ∀ x ∈ l, (Lit.int .i64 x).wf = true) (hl : l.length ≤ 60) :
    Calls Try.prog 11 #[.int .u64 a0, .slice A1 l.length c1] w fun e w' => e = .returned (.bool true) ∧ Below w.heap.size w w' := by
  have HR := Lib.hid hr
  have HW := Lib.hid hw
  clear hr hw
  have h1 : ¬ (60 : Int) < (l.length : Int) := by omega
  go_enter Try.func11, Try.ntmps11
  go_wp2_with (first
    | (go_at_call 46; refine (new_any a0 _).mono ?_; rintro e w1 ⟨g, rfl, hg, hb⟩; have HG := Lib.hid hg; have HB := Lib.hid hb; clear hg hb))
  go_loopw [7] (fun v7 wr => ∃ (j : Nat) (s : Int), j ≤ l.length ∧ v7 = .int .i64 j ∧ Hid (Two w wr g w1.heap.size s s)) (fun v7 _ => l.length - (intOf v7).toNat)
  case atStart => exact ⟨0, a0, by omega, rfl, Lib.hid ⟨HG.out.alloc _, IsS100.new w w1 a0 HB.out, below_alloc HB.out _⟩⟩
  case round =>
    obtain ⟨j, s, hj, rfl, HT⟩ := hrel
    by_cases h : j < l.length
    · have hlt : (j : Int) < (l.length : Int) := by omega
      obtain ⟨ad, c0, rfl, hcl, hK, hcc⟩ := Kd.C_get HR.out 0 j (by omega) (by omega)
      have hK' : c0 = [.int .i64 (l.getD j 0)] := hK
      subst hK'
      have hcell : w.cell? (ad.add j) = some (.int .i64 (l.getD j 0)) := by have := hcc 0 _ rfl; simpa [Kd.int, Kd.scalar] using this
      have hx : -9223372036854775808 ≤ l.getD j 0 ∧ l.getD j 0 ≤ 9223372036854775807 := by
        rw [List.getD_eq_getElem?_getD, List.getElem?_eq_getElem h, Option.getD_some]
        exact wf64 (HW.out _ (List.getElem_mem h))
      generalize l.getD j 0 = x at hcell hx
      have HC := Lib.hid hcell
      have hc0 := HT.out.cell hcell
      have hc0' := HT.out.drew.cell hcell
      clear hcell hcc hK hcl
      by_cases h3 : j % 3 = 0
      · have e3 : ((j : Int).tmod 3 == 0) = true := by
          have : (j : Int).tmod 3 = ((j % 3 : Nat) : Int) := by rw [Int.ofNat_tmod]; rfl
          rw [this]; simp [h3]
        obtain ⟨r, hr⟩ := throw_some s
        obtain ⟨r', hr'⟩ := below_some r.2 x hx
        have E1 := Lib.hid hr
        have E2 := Lib.hid hr'
        clear hr hr'
        go_wp2
        go_region_held3 (fun w' => w'.cell? (ad.add j) = some (.int .i64 x)) (first | exact hc0 | exact hc0' | exact hc2 | exact hc3 | exact hc4 | exact hc5) (first
          | (go_at_call 47; refine (throw_d HT.out.drew E1.out).mono ?_; rintro e w2 ⟨rfl, hT⟩; have hc2 := hT.cell HC.out; have T2 := Lib.hid hT; clear hT)
          | (go_at_call 48; refine (throw_q T2.out E1.out).mono ?_; rintro e w3 ⟨rfl, hT⟩; have hc3 := hT.cell HC.out; have T3 := Lib.hid hT; clear hT)
          | (go_at_call 49; refine (below_d T3.out E2.out).mono ?_; rintro e w4 ⟨rfl, hT⟩; have hc4 := hT.cell HC.out; have T4 := Lib.hid hT; clear hT)
          | (go_at_call 50; refine (below_q T4.out E2.out).mono ?_; rintro e w5 ⟨rfl, hT⟩; have hc5 := hT.cell HC.out; have T5 := Lib.hid hT; clear hT))
        go_wp2
        go_roundw
        case rel => exact ⟨j + 1, r'.2, by omega, by go_num, T5⟩
        case measure => simp [intOf]; omega
      · have e3 : ((j : Int).tmod 3 == 0) = false := by
          have : (j : Int).tmod 3 = ((j % 3 : Nat) : Int) := by rw [Int.ofNat_tmod]; rfl
          rw [this]; simp; omega
        obtain ⟨r', hr'⟩ := below_some s x hx
        have E2 := Lib.hid hr'
        clear hr'
        go_wp2
        /- the region, by gen_dice.py -/
        refine start_ (n := 25) (S := fun w' => w'.cell? (ad.add j) = some (.int .i64 x)) (ds := []) #[false, false, false, false, false, false, false, false, false, false, false, false, false, false, false, false, false, false, false, false, false, false, false, false, false] (by kernel_rfl) rfl rfl hc0' (fun hHeld => ?_)
        refine pure_ (i := 0) (N := (some 24)) (v := ?_) (a' := ?_) #[true, false, false, false, false, false, false, false, false, false, false, false, false, false, false, false, false, false, false, false, false, false, false, false, false] rfl rfl (by kernel_rfl) (fun _ _ _ h => h) (Or.inl ⟨by rfl, ?_⟩) ?_ ?_
        rotate_left
        · intro w'
          go_simp
          with_reducible rfl
        rotate_left
        · simp only [Act.put, List.setIfInBounds_toArray, List.set_cons_zero, List.set_cons_succ, i64_w, i32_w]
          rfl
        refine pure_ (i := 1) (N := (some 25)) (v := ?_) (a' := ?_) #[true, true, false, false, false, false, false, false, false, false, false, false, false, false, false, false, false, false, false, false, false, false, false, false, false] rfl rfl (by kernel_rfl) (fun _ _ _ h => h) (Or.inl ⟨by rfl, ?_⟩) ?_ ?_
        rotate_left
        · intro w'
          go_simp
          with_reducible rfl
        rotate_left
        · simp only [Act.put, List.setIfInBounds_toArray, List.set_cons_zero, List.set_cons_succ, i64_w, i32_w]
          rfl
        refine pure_ (i := 2) (N := (some 26)) (v := ?_) (a' := ?_) #[true, true, true, false, false, false, false, false, false, false, false, false, false, false, false, false, false, false, false, false, false, false, false, false, false] rfl rfl (by kernel_rfl) (fun _ _ _ h => h) (Or.inl ⟨by rfl, ?_⟩) ?_ ?_
        rotate_left
        · intro w'
          go_simp
          with_reducible rfl
        rotate_left
        · simp only [Act.put, List.setIfInBounds_toArray, List.set_cons_zero, List.set_cons_succ, i64_w, i32_w]
          rfl
        refine pure_ (i := 3) (N := (some 27)) (v := ?_) (a' := ?_) #[true, true, true, true, false, false, false, false, false, false, false, false, false, false, false, false, false, false, false, false, false, false, false, false, false] rfl rfl (by kernel_rfl) (fun _ _ _ h => h) (Or.inl ⟨by rfl, ?_⟩) ?_ ?_
        rotate_left
        · intro w'
          go_simp
          with_reducible rfl
        rotate_left
        · simp only [Act.put, List.setIfInBounds_toArray, List.set_cons_zero, List.set_cons_succ, i64_w, i32_w]
          rfl
        refine pure_ (i := 4) (N := (some 28)) (v := undef) (a' := ?_) #[true, true, true, true, true, false, false, false, false, false, false, false, false, false, false, false, false, false, false, false, false, false, false, false, false] rfl rfl (by kernel_rfl) (fun _ _ _ h => h) (Or.inr ⟨by rfl, rfl⟩) ?_ ?_
        rotate_left
        · simp only [Act.put, List.setIfInBounds_toArray, List.set_cons_zero, List.set_cons_succ, i64_w, i32_w]
          rfl
        refine pure_ (i := 5) (N := (some 29)) (v := undef) (a' := ?_) #[true, true, true, true, true, true, false, false, false, false, false, false, false, false, false, false, false, false, false, false, false, false, false, false, false] rfl rfl (by kernel_rfl) (fun _ _ _ h => h) (Or.inr ⟨by rfl, rfl⟩) ?_ ?_
        rotate_left
        · simp only [Act.put, List.setIfInBounds_toArray, List.set_cons_zero, List.set_cons_succ, i64_w, i32_w]
          rfl
        refine pure_ (i := 6) (N := (some 30)) (v := undef) (a' := ?_) #[true, true, true, true, true, true, true, false, false, false, false, false, false, false, false, false, false, false, false, false, false, false, false, false, false] rfl rfl (by kernel_rfl) (fun _ _ _ h => h) (Or.inr ⟨by rfl, rfl⟩) ?_ ?_
        rotate_left
        · simp only [Act.put, List.setIfInBounds_toArray, List.set_cons_zero, List.set_cons_succ, i64_w, i32_w]
          rfl
        refine pure_ (i := 7) (N := (some 31)) (v := undef) (a' := ?_) #[true, true, true, true, true, true, true, true, false, false, false, false, false, false, false, false, false, false, false, false, false, false, false, false, false] rfl rfl (by kernel_rfl) (fun _ _ _ h => h) (Or.inr ⟨by rfl, rfl⟩) ?_ ?_
        rotate_left
        · simp only [Act.put, List.setIfInBounds_toArray, List.set_cons_zero, List.set_cons_succ, i64_w, i32_w]
          rfl
        refine pure_ (i := 8) (N := (some 32)) (v := undef) (a' := ?_) #[true, true, true, true, true, true, true, true, true, false, false, false, false, false, false, false, false, false, false, false, false, false, false, false, false] rfl rfl (by kernel_rfl) (fun _ _ _ h => h) (Or.inr ⟨by rfl, rfl⟩) ?_ ?_
        rotate_left
        · simp only [Act.put, List.setIfInBounds_toArray, List.set_cons_zero, List.set_cons_succ, i64_w, i32_w]
          rfl
        refine pure_ (i := 9) (N := (some 33)) (v := ?_) (a' := ?_) #[true, true, true, true, true, true, true, true, true, true, false, false, false, false, false, false, false, false, false, false, false, false, false, false, false] rfl rfl (by kernel_rfl) (fun _ _ _ h => h) (Or.inl ⟨by rfl, ?_⟩) ?_ ?_
        rotate_left
        · intro w'
          go_simp
          with_reducible rfl
        rotate_left
        · simp only [Act.put, List.setIfInBounds_toArray, List.set_cons_zero, List.set_cons_succ, i64_w, i32_w]
          rfl
        refine pure_ (i := 10) (N := (some 34)) (v := ?_) (a' := ?_) #[true, true, true, true, true, true, true, true, true, true, true, false, false, false, false, false, false, false, false, false, false, false, false, false, false] rfl rfl (by kernel_rfl) (fun _ _ _ h => h) (Or.inl ⟨by rfl, ?_⟩) ?_ ?_
        rotate_left
        · intro w'
          go_simp
          with_reducible rfl
        rotate_left
        · simp only [Act.put, List.setIfInBounds_toArray, List.set_cons_zero, List.set_cons_succ, i64_w, i32_w]
          rfl
        refine pure_ (i := 11) (N := (some 35)) (v := ?_) (a' := ?_) #[true, true, true, true, true, true, true, true, true, true, true, true, false, false, false, false, false, false, false, false, false, false, false, false, false] rfl rfl (by kernel_rfl) (fun _ _ _ h => h) (Or.inl ⟨by rfl, ?_⟩) ?_ ?_
        rotate_left
        · intro w'
          go_simp
          with_reducible rfl
        rotate_left
        · simp only [Act.put, List.setIfInBounds_toArray, List.set_cons_zero, List.set_cons_succ, i64_w, i32_w]
          rfl
        refine pure_ (i := 12) (N := (some 36)) (v := ?_) (a' := ?_) #[true, true, true, true, true, true, true, true, true, true, true, true, true, false, false, false, false, false, false, false, false, false, false, false, false] rfl rfl (by kernel_rfl) (fun _ _ _ h => h) (Or.inl ⟨by rfl, ?_⟩) ?_ ?_
        rotate_left
        · intro w'
          go_simp
          with_reducible rfl
        rotate_left
        · simp only [Act.put, List.setIfInBounds_toArray, List.set_cons_zero, List.set_cons_succ, i64_w, i32_w]
          rfl
        refine pure_ (i := 13) (N := (some 37)) (v := ?_) (a' := ?_) #[true, true, true, true, true, true, true, true, true, true, true, true, true, true, false, false, false, false, false, false, false, false, false, false, false] rfl rfl (by kernel_rfl) (fun _ _ _ h => h) (Or.inl ⟨by rfl, ?_⟩) ?_ ?_
        rotate_left
        · intro w'
          go_simp
          with_reducible rfl
        rotate_left
        · simp only [Act.put, List.setIfInBounds_toArray, List.set_cons_zero, List.set_cons_succ, i64_w, i32_w]
          rfl
        refine pure_ (i := 14) (N := (some 38)) (v := ?_) (a' := ?_) #[true, true, true, true, true, true, true, true, true, true, true, true, true, true, true, false, false, false, false, false, false, false, false, false, false] rfl rfl (by kernel_rfl) (fun _ _ _ h => h) (Or.inl ⟨by rfl, ?_⟩) ?_ ?_
        rotate_left
        · intro w'
          go_simp
          with_reducible rfl
        rotate_left
        · simp only [Act.put, List.setIfInBounds_toArray, List.set_cons_zero, List.set_cons_succ, i64_w, i32_w]
          rfl
        refine take_ (i := 15) (N := (some 39)) (v := ?_) (a' := ?_) #[true, true, true, true, true, true, true, true, true, true, true, true, true, true, true, true, false, false, false, false, false, false, false, false, false] rfl rfl (by kernel_rfl) (fun _ _ _ h => h) (Or.inl ⟨by rfl, ?_⟩) hHeld ?_ ?_
        rotate_left
        · rintro w' s0
          go_simp
          with_reducible rfl
        rotate_left
        · simp only [Act.put, List.setIfInBounds_toArray, List.set_cons_zero, List.set_cons_succ, i64_w, i32_w]
          rfl
        refine pure_ (i := 17) (N := (some 41)) (v := ?_) (a' := ?_) #[true, true, true, true, true, true, true, true, true, true, true, true, true, true, true, true, false, true, false, false, false, false, false, false, false] rfl rfl (by kernel_rfl) (fun _ _ _ h => h) (Or.inl ⟨by rfl, ?_⟩) ?_ ?_
        rotate_left
        · intro w'
          go_simp
          with_reducible rfl
        rotate_left
        · simp only [Act.put, List.setIfInBounds_toArray, List.set_cons_zero, List.set_cons_succ, i64_w, i32_w]
          rfl
        refine pure_ (i := 18) (N := (some 42)) (v := ?_) (a' := ?_) #[true, true, true, true, true, true, true, true, true, true, true, true, true, true, true, true, false, true, true, false, false, false, false, false, false] rfl rfl (by kernel_rfl) (fun _ _ _ h => h) (Or.inl ⟨by rfl, ?_⟩) ?_ ?_
        rotate_left
        · intro w'
          go_simp
          with_reducible rfl
        rotate_left
        · simp only [Act.put, List.setIfInBounds_toArray, List.set_cons_zero, List.set_cons_succ, i64_w, i32_w]
          rfl
        refine pure_ (i := 19) (N := (some 43)) (v := ?_) (a' := ?_) #[true, true, true, true, true, true, true, true, true, true, true, true, true, true, true, true, false, true, true, true, false, false, false, false, false] rfl rfl (by kernel_rfl) (fun _ _ _ h => h) (Or.inl ⟨by rfl, ?_⟩) ?_ ?_
        rotate_left
        · intro w'
          go_simp
          with_reducible rfl
        rotate_left
        · simp only [Act.put, List.setIfInBounds_toArray, List.set_cons_zero, List.set_cons_succ, i64_w, i32_w]
          rfl
        refine pure_ (i := 20) (N := (some 44)) (v := ?_) (a' := ?_) #[true, true, true, true, true, true, true, true, true, true, true, true, true, true, true, true, false, true, true, true, true, false, false, false, false] rfl rfl (by kernel_rfl) (fun _ _ _ h => h) (Or.inl ⟨by rfl, ?_⟩) ?_ ?_
        rotate_left
        · intro w'
          go_simp
          with_reducible rfl
        rotate_left
        · simp only [Act.put, List.setIfInBounds_toArray, List.set_cons_zero, List.set_cons_succ, i64_w, i32_w]
          rfl
        refine take_ (i := 21) (N := (some 45)) (v := ?_) (a' := ?_) #[true, true, true, true, true, true, true, true, true, true, true, true, true, true, true, true, false, true, true, true, true, true, false, false, false] rfl rfl (by kernel_rfl) (fun _ _ _ h => h) (Or.inl ⟨by rfl, ?_⟩) hHeld ?_ ?_
        rotate_left
        · rintro w' s0
          go_simp
          with_reducible rfl
        rotate_left
        · simp only [Act.put, List.setIfInBounds_toArray, List.set_cons_zero, List.set_cons_succ, i64_w, i32_w]
          rfl
        refine one_ (i := 16) (N := (some 40)) #[true, true, true, true, true, true, true, true, true, true, true, true, true, true, true, true, true, true, true, true, true, true, false, false, false] rfl rfl (by kernel_rfl) (by decide) (fun K hK => ?_)
        refine goes_ Try.func49 (by kernel_rfl) rfl #[.pointer (some ⟨g, 0, none⟩), .int .i64 x] (by rfl) rfl rfl (by (try simp only [List.map_toArray, List.map_cons, List.map_nil]); first | done | rfl) ?_
        with_reducible refine (below_d HT.out.drew E2.out).mono ?_
        rintro e w4 ⟨rfl, hT⟩
        refine ⟨_, rfl, ?_⟩
        have hc4 := hT.cell HC.out
        have T4 := Lib.hid hT
        clear hT
        refine hK.out _ _ hc4 (fun hHeld => ?_)
        clear hK K
        refine norm_ (a' := ?_) ?_ ?_
        rotate_left
        · show Act.put _ (some 40) _ = _
          simp only [Act.put, List.setIfInBounds_toArray, List.set_cons_zero, List.set_cons_succ, i64_w, i32_w]
          rfl
        refine one_ (i := 22) (N := (some 46)) #[true, true, true, true, true, true, true, true, true, true, true, true, true, true, true, true, true, true, true, true, true, true, true, false, false] rfl rfl (by kernel_rfl) (by decide) (fun K hK => ?_)
        refine goes_ Try.func50 (by kernel_rfl) rfl #[.pointer (some ⟨w1.heap.size, 0, none⟩), .int .i64 x] (by rfl) rfl rfl (by (try simp only [List.map_toArray, List.map_cons, List.map_nil]); first | done | rfl) ?_
        with_reducible refine (below_q T4.out E2.out).mono ?_
        rintro e w5 ⟨rfl, hT⟩
        refine ⟨_, rfl, ?_⟩
        have hc5 := hT.cell HC.out
        have T5 := Lib.hid hT
        clear hT
        refine hK.out _ _ hc5 (fun hHeld => ?_)
        clear hK K
        refine norm_ (a' := ?_) ?_ ?_
        rotate_left
        · show Act.put _ (some 46) _ = _
          simp only [Act.put, List.setIfInBounds_toArray, List.set_cons_zero, List.set_cons_succ, i64_w, i32_w]
          rfl
        refine pure_ (i := 23) (N := (some 47)) (v := ?_) (a' := ?_) #[true, true, true, true, true, true, true, true, true, true, true, true, true, true, true, true, true, true, true, true, true, true, true, true, false] rfl rfl (by kernel_rfl) (fun _ _ _ h => h) (Or.inl ⟨by rfl, ?_⟩) ?_ ?_
        rotate_left
        · intro w'
          go_simp
          with_reducible rfl
        rotate_left
        · simp only [Act.put, List.setIfInBounds_toArray, List.set_cons_zero, List.set_cons_succ, i64_w, i32_w]
          rfl
        refine pure_ (i := 24) (N := (some 48)) (v := ?_) (a' := ?_) #[true, true, true, true, true, true, true, true, true, true, true, true, true, true, true, true, true, true, true, true, true, true, true, true, true] rfl rfl (by kernel_rfl) (fun _ _ _ h => h) (Or.inl ⟨by rfl, ?_⟩) ?_ ?_
        rotate_left
        · intro w'
          go_simp
          with_reducible rfl
        rotate_left
        · simp only [Act.put, List.setIfInBounds_toArray, List.set_cons_zero, List.set_cons_succ, i64_w, i32_w]
          rfl
        refine done_ (by kernel_rfl) ?_
        /- its end -/
        go_wp2
        go_roundw
        case rel => exact ⟨j + 1, r'.2, by omega, by go_num, T5⟩
        case measure => simp [intOf]; omega
    · have hge : ¬ (j : Int) < (l.length : Int) := by omega
      have hfd : ∀ w : World, (Instr.field 81 (.agg #[.slice none 0 0, .int .i64 0, .int .i64 0, .int .i64 0, .int .i64 0, .int .i64 0, .int .i64 0, .int .i64 0, .int .i64 0, .int .i64 0, .int .i64 0, .int .u64 0]) 0).run Try.prog w = .ok (.slice none 0 0) w := fun _ => by kernel_rfl
      have BB := Lib.hid HT.out.b
      have BD := Lib.hid HT.out.drew.b
      go_wp2_with (first
        | (go_at_call 45; (with_reducible refine (awake_any _).mono ?_); rintro e w2 ⟨rfl, hb⟩; have BB := Lib.hid (below_step BB.out hb); clear hb)
        | (go_at_call 47; (with_reducible refine (throw_nil _).mono ?_); rintro e w3 ⟨rfl, rfl⟩)
        | (go_at_call 49; (with_reducible refine (below_nil _).mono ?_); rintro e w3 ⟨rfl, rfl⟩)
        | (go_at_call 51; (with_reducible refine (config_nil _).mono ?_); rintro e w2 ⟨rfl, hb⟩; have BB := Lib.hid (below_step BB.out hb); clear hb)
        | (go_at_call 51; (with_reducible refine (config_one HN.out BN.out).mono ?_); rintro e w2 ⟨A, n, c, x1, x2, x3, x4, x5, x6, x7, x8, x9, x10, x11, hn, rfl, hb⟩; have BB := Lib.hid (below_step BB0.out hb); clear hb)
        | (go_at_call 46; (with_reducible refine (new_any 1 _).mono ?_); rintro e w2 ⟨gn, rfl, hg, hb⟩; have HN := Lib.hid hg; have BN := Lib.hid hb; have BB0 := BB; clear hg hb)
        | (go_at_call 52; (with_reducible refine (step_nil A n c x1 x2 x3 x4 x5 x6 x7 x8 x9 x10 x11 _ hn).mono ?_); rintro e w2 ⟨rfl, hb⟩; have BB := Lib.hid (below_step BB.out hb); clear hb)
        | (go_at_call 53; (with_reducible refine (script_nil A n c x1 x2 x3 x4 x5 x6 x7 x8 x9 x10 x11 5 _ hn).mono ?_); rintro e w2 ⟨rfl, hb⟩; have BB := Lib.hid (below_step BB.out hb); clear hb))
      go_ret
      exact ⟨rfl, BB.out⟩
theorem DiceThrows (a0 : Int) (A1 : Option Addr) (c1 : Nat) (l1 : List Int) (w : World) (hr1 : Kd.C (Kd.int .i64) w A1 l1.length l1) (hc1 : l1.length ≤ c1) (w0 : (Lit.int .u64 a0).wf = true) (w1 : l1.length * 8 ≤ 140737488351232 ∧ ∀ x ∈ l1, (Lit.int .i64 x).wf = true) :
    Calls Try.prog 11 #[.int .u64 a0, .slice A1 l1.length c1] w fun e w' => e = .returned (.bool true) ∧ Below w.heap.size w w' := by
  by_cases h : 60 < l1.length
  · exact law_many a0 A1 c1 l1 w h
  · exact law_few a0 A1 c1 l1 w hr1 w1.2 (by omega)

end Go.Proofs.Ythbjbjlfliogmab.Pure
