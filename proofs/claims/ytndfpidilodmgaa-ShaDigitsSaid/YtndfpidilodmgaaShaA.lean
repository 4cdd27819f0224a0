/- The words of a block, the constants and the turned words of package sha: what spread, constant and right return. -/
import Derived.Test.YtndfpidilodmgaaHand0
import Derived.Test.YtndfpidilodmgaaHandShelf
import Derived.Deep.WholeRow
import Derived.BigRegion
import Derived.Laws.CopyOwn
import Derived.StillTailTactics
import Derived.Deep.RegionWith
import Derived.Laws.Tables
import Derived.Laws.BitsAllLaws
set_option linter.unusedSimpArgs false
set_option linter.unusedVariables false
namespace Go.Proofs.Ytndfpidilodmgaa.Hand
open Go.RowKit Go.Proofs.YtndfpidilodmgaaW.PrintWords Go.Proofs.YtndfpidilodmgaaW.PrintLast
def KL : List Int := [1116352408, 1899447441, 3049323471, 3921009573, 961987163, 1508970993, 2453635748, 2870763221, 3624381080, 310598401, 607225278, 1426881987, 1925078388, 2162078206, 2614888103, 3248222580, 3835390401, 4022224774, 264347078, 604807628, 770255983, 1249150122, 1555081692, 1996064986, 2554220882, 2821834349, 2952996808, 3210313671, 3336571891, 3584528711, 113926993, 338241895, 666307205, 773529912, 1294757372, 1396182291, 1695183700, 1986661051, 2177026350, 2456956037, 2730485921, 2820302411, 3259730800, 3345764771, 3516065817, 3600352804, 4094571909, 275423344, 430227734, 506948616, 659060556, 883997877, 958139571, 1322822218, 1537002063, 1747873779, 1955562222, 2024104815, 2227730452, 2361852424, 2428436474, 2756734187, 3204031479, 3329325298]
def KA : Array Value := (KL.map (Value.int .u32)).toArray
theorem wpList_build_to {P : Program} {ops : Array Oper} {rest : List Oper} {o : Oper} {a : Act} {w : World} {Q : Exit → Act → World → Prop} (hg : o.guard = none) (t : TypeId) (parts : Array (Nat × Operand)) (ho : o.op = .build t parts) (cells : Array Value)
    (hf : P.built t (parts.map fun (i, x) => (i, a.eval x)).toList = some cells) (h : wpList P ops Q rest (a.put o.dst (.agg cells)) w) : wpList P ops Q (o :: rest) a w :=
  wpList_build hg t parts ho (by rw [hf]; rfl) (by rw [hf]; exact h)
theorem wpList_alloc_to {P : Program} {ops : Array Oper} {rest : List Oper} {o : Oper} {a : Act} {w : World} {Q : Exit → Act → World → Prop} (hg : o.guard = none) (t : TypeId) (ho : o.op = .alloc t) (cells : Array Value) (n : Nat)
    (hz : (P.info? t).map (fun i => (i.zero, i.size)) = some (some (.agg cells), n)) (h : wpList P ops Q rest (a.put o.dst (.pointer (some ⟨w.heap.size, 0, none⟩))) (w.alloc (.cells cells t))) : wpList P ops Q (o :: rest) a w := by
  refine wpList_plain hg fun K hK => ?_
  have hz1 := (zero_of_info hz).1
  unfold Oper.wp execOp
  simp only [ho, Instr.alloc, Sem.run_bind, hz1, Result.andThen_ok]
  exact hK _ _ h
set_option maxRecDepth 100000 in
set_option maxHeartbeats 4000000 in
theorem constant_walk (t : Nat) (h : t < 64) (w : World) : Calls Try.prog 29 #[.int .i64 t] w fun e w' => e = .returned (.int .u32 (KL.getD t 0)) ∧ Below w.heap.size w w' := by
  have ht : KL[t]? = some (KL.getD t 0) := by
    rw [List.getD_eq_getElem?_getD, List.getElem?_eq_getElem (show t < KL.length from h)]
    rfl
  generalize KL.getD t 0 = x at ht ⊢
  have HT := Lib.hid ht
  clear ht
  go_enter Try.func29, Try.ntmps29
  go_upto_region 1 with (fail)
  go_step
  refine wpList_build_to rfl 64 _ rfl KA (by kernel_rfl) ?_
  refine wpList_alloc_to rfl 64 rfl (Array.replicate 64 (.int .u32 0)) 64 (by kernel_rfl) ?_
  refine wpList_store_row rfl 64 _ _ rfl w.heap.size KA rfl rfl 64 _ (heap_alloc_new w _) (by kernel_rfl) (by kernel_rfl) (by kernel_rfl) ?_
  rw [World.setRow_alloc_new]
  have S := Lib.hid (heap_alloc_new w (.cells KA 64))
  have F := Lib.hid (below_alloc (Below.refl w.heap.size w) (.cells KA 64))
  have hk : (w.alloc (.cells KA 64)).cell? ⟨w.heap.size, t, none⟩ = some (.int .u32 x) := by
    rw [cell_of_row _ _ t _ _ _ S.out]
    simp only [KA, List.getElem?_toArray, List.getElem?_map, HT.out, Option.map_some]
  clear S
  generalize w.alloc _ = w1 at hk F ⊢
  generalize w.heap.size = g at hk ⊢
  have hlt : (t : Int) < 64 := by omega
  go_wp2
  go_ret
  exact ⟨rfl, F.out⟩
def row (L : List Int) : Array Value := (L.map (Value.int .u32)).toArray
theorem row_put {W : World} {b T : Nat} {L : List Int} (h : W.heap[b]? = some (.cells (row L) T (0, 0))) (i : Nat) (v : Int) : (W.setCell ⟨b, i, none⟩ (.int .u32 v)).heap[b]? = some (.cells (row (L.set i v)) T (0, 0)) := by
  refine blk_put h i _ ?_
  simp [row, List.map_set]
theorem row_get {W : World} {b T : Nat} {L : List Int} (h : W.heap[b]? = some (.cells (row L) T (0, 0))) (i : Nat) (hi : i < L.length) : W.cell? ⟨b, i, none⟩ = some (.int .u32 (L.getD i 0)) := by
  rw [cell_of_row _ _ i _ _ _ h, List.getD_eq_getElem?_getD, List.getElem?_eq_getElem hi]
  simp only [row, List.getElem?_toArray, List.getElem?_map, List.getElem?_eq_getElem hi, Option.map_some, Option.getD_some]
theorem row_fr {W : World} {b T : Nat} {L : List Int} (h : W.heap[b]? = some (.cells (row L) T (0, 0))) (i : Nat) : W.frozen? ⟨b, i, none⟩ = false := blk_frozen h i
theorem row_one (L : List Int) : (row L).all (·.oneCell') = true := by
  rw [Array.all_eq_true_iff_forall_mem]
  intro v hv
  simp only [row, List.mem_toArray, List.mem_map] at hv
  obtain ⟨x, _, rfl⟩ := hv
  rfl
theorem below_row {n g : Nat} {w W : World} {cs : Array Value} (h : Below n w W) (hg : n ≤ g) : Below n w (W.setRow g cs) := by
  exact below_setRow h hg _
def Z64 : List Int := List.replicate 64 0
/-- A word turned right, as Go's library turns it: p is 2 to the rest, q 2 to the number. -/
def rotr (x p q : Int) : Int := bits .or .u32 (x * p % 4294967296) (x / q)
set_option maxRecDepth 100000 in
theorem rotl2 (x : Int) (w : World) : Calls Try.prog 34 #[.int .u32 x, .int .i64 (-2)] w fun e w' => e = .returned (.int .u32 (rotr x 1073741824 4)) ∧ w' = w := by
  have h1 : IntKind.u64.wrap (-2) = 18446744073709551614 := by decide +kernel
  have h2 : bits .and .u64 18446744073709551614 31 = 30 := by decide +kernel
  go_enter Try.func34, Try.ntmps34
  go_wp2
  go_ret
  exact ⟨rfl, rfl⟩
set_option maxRecDepth 100000 in
theorem right2 (x : Int) (w : World) : Calls Try.prog 28 #[.int .u32 x, .int .i64 2] w fun e w' => e = .returned (.int .u32 (rotr x 1073741824 4)) ∧ w' = w := by
  go_enter Try.func28, Try.ntmps28
  go_wp2_with (go_at_call 34; refine (rotl2 x w).mono ?_; rintro e w' ⟨rfl, rfl⟩)
  go_ret
  exact ⟨rfl, rfl⟩
set_option maxRecDepth 100000 in
theorem rotl6 (x : Int) (w : World) : Calls Try.prog 34 #[.int .u32 x, .int .i64 (-6)] w fun e w' => e = .returned (.int .u32 (rotr x 67108864 64)) ∧ w' = w := by
  have h1 : IntKind.u64.wrap (-6) = 18446744073709551610 := by decide +kernel
  have h2 : bits .and .u64 18446744073709551610 31 = 26 := by decide +kernel
  go_enter Try.func34, Try.ntmps34
  go_wp2
  go_ret
  exact ⟨rfl, rfl⟩
set_option maxRecDepth 100000 in
theorem right6 (x : Int) (w : World) : Calls Try.prog 28 #[.int .u32 x, .int .i64 6] w fun e w' => e = .returned (.int .u32 (rotr x 67108864 64)) ∧ w' = w := by
  go_enter Try.func28, Try.ntmps28
  go_wp2_with (go_at_call 34; refine (rotl6 x w).mono ?_; rintro e w' ⟨rfl, rfl⟩)
  go_ret
  exact ⟨rfl, rfl⟩
set_option maxRecDepth 100000 in
theorem rotl7 (x : Int) (w : World) : Calls Try.prog 34 #[.int .u32 x, .int .i64 (-7)] w fun e w' => e = .returned (.int .u32 (rotr x 33554432 128)) ∧ w' = w := by
  have h1 : IntKind.u64.wrap (-7) = 18446744073709551609 := by decide +kernel
  have h2 : bits .and .u64 18446744073709551609 31 = 25 := by decide +kernel
  go_enter Try.func34, Try.ntmps34
  go_wp2
  go_ret
  exact ⟨rfl, rfl⟩
set_option maxRecDepth 100000 in
theorem right7 (x : Int) (w : World) : Calls Try.prog 28 #[.int .u32 x, .int .i64 7] w fun e w' => e = .returned (.int .u32 (rotr x 33554432 128)) ∧ w' = w := by
  go_enter Try.func28, Try.ntmps28
  go_wp2_with (go_at_call 34; refine (rotl7 x w).mono ?_; rintro e w' ⟨rfl, rfl⟩)
  go_ret
  exact ⟨rfl, rfl⟩
set_option maxRecDepth 100000 in
theorem rotl11 (x : Int) (w : World) : Calls Try.prog 34 #[.int .u32 x, .int .i64 (-11)] w fun e w' => e = .returned (.int .u32 (rotr x 2097152 2048)) ∧ w' = w := by
  have h1 : IntKind.u64.wrap (-11) = 18446744073709551605 := by decide +kernel
  have h2 : bits .and .u64 18446744073709551605 31 = 21 := by decide +kernel
  go_enter Try.func34, Try.ntmps34
  go_wp2
  go_ret
  exact ⟨rfl, rfl⟩
set_option maxRecDepth 100000 in
theorem right11 (x : Int) (w : World) : Calls Try.prog 28 #[.int .u32 x, .int .i64 11] w fun e w' => e = .returned (.int .u32 (rotr x 2097152 2048)) ∧ w' = w := by
  go_enter Try.func28, Try.ntmps28
  go_wp2_with (go_at_call 34; refine (rotl11 x w).mono ?_; rintro e w' ⟨rfl, rfl⟩)
  go_ret
  exact ⟨rfl, rfl⟩
set_option maxRecDepth 100000 in
theorem rotl13 (x : Int) (w : World) : Calls Try.prog 34 #[.int .u32 x, .int .i64 (-13)] w fun e w' => e = .returned (.int .u32 (rotr x 524288 8192)) ∧ w' = w := by
  have h1 : IntKind.u64.wrap (-13) = 18446744073709551603 := by decide +kernel
  have h2 : bits .and .u64 18446744073709551603 31 = 19 := by decide +kernel
  go_enter Try.func34, Try.ntmps34
  go_wp2
  go_ret
  exact ⟨rfl, rfl⟩
set_option maxRecDepth 100000 in
theorem right13 (x : Int) (w : World) : Calls Try.prog 28 #[.int .u32 x, .int .i64 13] w fun e w' => e = .returned (.int .u32 (rotr x 524288 8192)) ∧ w' = w := by
  go_enter Try.func28, Try.ntmps28
  go_wp2_with (go_at_call 34; refine (rotl13 x w).mono ?_; rintro e w' ⟨rfl, rfl⟩)
  go_ret
  exact ⟨rfl, rfl⟩
set_option maxRecDepth 100000 in
theorem rotl17 (x : Int) (w : World) : Calls Try.prog 34 #[.int .u32 x, .int .i64 (-17)] w fun e w' => e = .returned (.int .u32 (rotr x 32768 131072)) ∧ w' = w := by
  have h1 : IntKind.u64.wrap (-17) = 18446744073709551599 := by decide +kernel
  have h2 : bits .and .u64 18446744073709551599 31 = 15 := by decide +kernel
  go_enter Try.func34, Try.ntmps34
  go_wp2
  go_ret
  exact ⟨rfl, rfl⟩
set_option maxRecDepth 100000 in
theorem right17 (x : Int) (w : World) : Calls Try.prog 28 #[.int .u32 x, .int .i64 17] w fun e w' => e = .returned (.int .u32 (rotr x 32768 131072)) ∧ w' = w := by
  go_enter Try.func28, Try.ntmps28
  go_wp2_with (go_at_call 34; refine (rotl17 x w).mono ?_; rintro e w' ⟨rfl, rfl⟩)
  go_ret
  exact ⟨rfl, rfl⟩
set_option maxRecDepth 100000 in
theorem rotl18 (x : Int) (w : World) : Calls Try.prog 34 #[.int .u32 x, .int .i64 (-18)] w fun e w' => e = .returned (.int .u32 (rotr x 16384 262144)) ∧ w' = w := by
  have h1 : IntKind.u64.wrap (-18) = 18446744073709551598 := by decide +kernel
  have h2 : bits .and .u64 18446744073709551598 31 = 14 := by decide +kernel
  go_enter Try.func34, Try.ntmps34
  go_wp2
  go_ret
  exact ⟨rfl, rfl⟩
set_option maxRecDepth 100000 in
theorem right18 (x : Int) (w : World) : Calls Try.prog 28 #[.int .u32 x, .int .i64 18] w fun e w' => e = .returned (.int .u32 (rotr x 16384 262144)) ∧ w' = w := by
  go_enter Try.func28, Try.ntmps28
  go_wp2_with (go_at_call 34; refine (rotl18 x w).mono ?_; rintro e w' ⟨rfl, rfl⟩)
  go_ret
  exact ⟨rfl, rfl⟩
set_option maxRecDepth 100000 in
theorem rotl19 (x : Int) (w : World) : Calls Try.prog 34 #[.int .u32 x, .int .i64 (-19)] w fun e w' => e = .returned (.int .u32 (rotr x 8192 524288)) ∧ w' = w := by
  have h1 : IntKind.u64.wrap (-19) = 18446744073709551597 := by decide +kernel
  have h2 : bits .and .u64 18446744073709551597 31 = 13 := by decide +kernel
  go_enter Try.func34, Try.ntmps34
  go_wp2
  go_ret
  exact ⟨rfl, rfl⟩
set_option maxRecDepth 100000 in
theorem right19 (x : Int) (w : World) : Calls Try.prog 28 #[.int .u32 x, .int .i64 19] w fun e w' => e = .returned (.int .u32 (rotr x 8192 524288)) ∧ w' = w := by
  go_enter Try.func28, Try.ntmps28
  go_wp2_with (go_at_call 34; refine (rotl19 x w).mono ?_; rintro e w' ⟨rfl, rfl⟩)
  go_ret
  exact ⟨rfl, rfl⟩
set_option maxRecDepth 100000 in
theorem rotl22 (x : Int) (w : World) : Calls Try.prog 34 #[.int .u32 x, .int .i64 (-22)] w fun e w' => e = .returned (.int .u32 (rotr x 1024 4194304)) ∧ w' = w := by
  have h1 : IntKind.u64.wrap (-22) = 18446744073709551594 := by decide +kernel
  have h2 : bits .and .u64 18446744073709551594 31 = 10 := by decide +kernel
  go_enter Try.func34, Try.ntmps34
  go_wp2
  go_ret
  exact ⟨rfl, rfl⟩
set_option maxRecDepth 100000 in
theorem right22 (x : Int) (w : World) : Calls Try.prog 28 #[.int .u32 x, .int .i64 22] w fun e w' => e = .returned (.int .u32 (rotr x 1024 4194304)) ∧ w' = w := by
  go_enter Try.func28, Try.ntmps28
  go_wp2_with (go_at_call 34; refine (rotl22 x w).mono ?_; rintro e w' ⟨rfl, rfl⟩)
  go_ret
  exact ⟨rfl, rfl⟩
set_option maxRecDepth 100000 in
theorem rotl25 (x : Int) (w : World) : Calls Try.prog 34 #[.int .u32 x, .int .i64 (-25)] w fun e w' => e = .returned (.int .u32 (rotr x 128 33554432)) ∧ w' = w := by
  have h1 : IntKind.u64.wrap (-25) = 18446744073709551591 := by decide +kernel
  have h2 : bits .and .u64 18446744073709551591 31 = 7 := by decide +kernel
  go_enter Try.func34, Try.ntmps34
  go_wp2
  go_ret
  exact ⟨rfl, rfl⟩
set_option maxRecDepth 100000 in
theorem right25 (x : Int) (w : World) : Calls Try.prog 28 #[.int .u32 x, .int .i64 25] w fun e w' => e = .returned (.int .u32 (rotr x 128 33554432)) ∧ w' = w := by
  go_enter Try.func28, Try.ntmps28
  go_wp2_with (go_at_call 34; refine (rotl25 x w).mono ?_; rintro e w' ⟨rfl, rfl⟩)
  go_ret
  exact ⟨rfl, rfl⟩
def byte1 (s : ByteArray) (n i : Nat) (x : Int) : Int := bits .or .u32 (x * 256 % 4294967296) (bt s (4 * (n : Int) + (i : Int)) % 4294967296)
def acc (s : ByteArray) (n : Nat) : Nat → Int → Int
  | 0, x => x
  | i + 1, x => byte1 s n i (acc s n i x)
def sig0 (x : Int) : Int := bits .xor .u32 (bits .xor .u32 (rotr x 33554432 128) (rotr x 16384 262144)) (x / 8)
def sig1 (x : Int) : Int := bits .xor .u32 (bits .xor .u32 (rotr x 32768 131072) (rotr x 8192 524288)) (x / 1024)
def word2 (x16 x7 x15 x2 : Int) : Int := (x16 + x7 + sig0 x15 + sig1 x2) % 4294967296
def word (s : ByteArray) (L : List Int) (n : Nat) : Int := if n < 16 then acc s n 4 (L.getD n 0) else word2 (L.getD (n - 16) 0) (L.getD (n - 7) 0) (L.getD (n - 15) 0) (L.getD (n - 2) 0)
/-- The words of a block: the first n, zeros behind them. -/
def SP (s : ByteArray) : Nat → List Int
  | 0 => Z64
  | n + 1 => (SP s n).set n (word s (SP s n) n)
theorem SP_len (s : ByteArray) : ∀ n, (SP s n).length = 64
  | 0 => rfl
  | n + 1 => by rw [SP, List.length_set]; exact SP_len s n
theorem set_self (L : List Int) (n : Nat) (h : n < L.length) : L.set n (L.getD n 0) = L := by
  rw [List.getD_eq_getElem?_getD, List.getElem?_eq_getElem h, Option.getD_some, List.set_getElem_self]
theorem getD_set_self (L : List Int) (n : Nat) (y : Int) (h : n < L.length) : (L.set n y).getD n 0 = y := by
  rw [List.getD_eq_getElem?_getD, List.getElem?_set_self h, Option.getD_some]
set_option maxRecDepth 100000 in
set_option maxHeartbeats 800000 in
theorem spread_walk (s : ByteArray) (hs : s.size = 64) (w : World) : Calls Try.prog 27 #[.string s] w fun e w' => e = .returned (.agg (row (SP s 64))) ∧ Below w.heap.size w w' := by
  obtain ⟨LL, hLL⟩ : ∃ L, SP s 64 = L := ⟨_, rfl⟩
  rw [hLL]
  have HLL := Lib.hid hLL
  clear hLL
  go_enter Try.func27, Try.ntmps27
  go_upto_region 1 with (fail)
  go_step
  show wpList _ _ _ _ _ (w.alloc (.cells (row Z64) 64))
  refine wpList_alloc_to rfl 64 rfl (row Z64) 64 (by kernel_rfl) ?_
  have S1 := Lib.hid (blk_alloc (blk_new w (.cells (row Z64) 64)) (.cells (row Z64) 64))
  have S2 := Lib.hid (heap_alloc2_new w (.cells (row Z64) 64) (.cells (row Z64) 64))
  have F := Lib.hid (below_alloc (below_alloc (Below.refl w.heap.size w) (.cells (row Z64) 64)) (.cells (row Z64) 64))
  rw [World.size_alloc]
  generalize (w.alloc _).alloc _ = w1 at S1 S2 F ⊢
  obtain ⟨g, hg⟩ : ∃ g, w.heap.size = g := ⟨_, rfl⟩
  rw [hg] at S1 S2 ⊢
  have hg1 : w.heap.size ≤ g + 1 := by omega
  have hg0 : w.heap.size ≤ g := by omega
  have n1 : g ≠ g + 1 := by omega
  have n2 : g + 1 ≠ g := by omega
  go_wp2_with fail
  go_loopw [8] (fun v8 wr => ∃ n : Nat, n ≤ 64 ∧ v8 = .int .i64 n ∧ Hid (wr.heap[g + 1]? = some (.cells (row (SP s n)) 64 (0, 0))) ∧ Hid (wr.heap[g]? = some (.cells (row Z64) 64 (0, 0))) ∧ Hid (Below w.heap.size w wr)) (fun v8 _ => 64 - (intOf v8).toNat)
  case atStart => exact ⟨0, by omega, rfl, S2, S1, F⟩
  case round =>
    clear S1 S2 F
    obtain ⟨n, hn, rfl, S2, S1, F⟩ := hrel
    have hL := SP_len s n
    by_cases h : n < 64
    · have hlt : (n : Int) < 64 := by omega
      have hn0 : (0 : Int) ≤ (n : Int) := by omega
      by_cases h16 : n < 16
      · have hlt2 : (n : Int) < 16 := by omega
        have hSP : SP s (n + 1) = (SP s n).set n (acc s n 4 ((SP s n).getD n 0)) := by rw [SP, word, if_pos h16]
        obtain ⟨x0, hx0⟩ : ∃ x, (SP s n).getD n 0 = x := ⟨_, rfl⟩
        rw [hx0] at hSP
        have HS := Lib.hid hSP
        have S3 : Hid (wr.heap[g + 1]? = some (.cells (row ((SP s n).set n (acc s n 0 x0))) 64 (0, 0))) := Lib.hid (by rw [acc, ← hx0, set_self _ _ (by omega)]; exact S2.out)
        clear S2 hSP hx0
        go_wp2_with fail
        go_loopw [13] (fun v13 wr => ∃ (i : Nat), i ≤ 4 ∧ v13 = .int .i64 i ∧ Hid (wr.heap[g + 1]? = some (.cells (row ((SP s n).set n (acc s n i x0))) 64 (0, 0))) ∧ Hid (wr.heap[g]? = some (.cells (row Z64) 64 (0, 0))) ∧ Hid (Below w.heap.size w wr)) (fun v13 _ => 4 - (intOf v13).toNat)
        case atStart => exact ⟨0, by omega, rfl, S3, S1, F⟩
        case round =>
          clear S3 S1 F
          obtain ⟨i, hi, rfl, S2, S1, F⟩ := hrel
          by_cases h4 : i < 4
          · have hlt4 : (i : Int) < 4 := by omega
            have hk := row_get S2.out n (by rw [List.length_set]; omega)
            rw [getD_set_self _ _ _ (by omega)] at hk
            have hf := row_fr S2.out n
            have hw : IntKind.i64.wrap (4 * (n : Int)) = 4 * (n : Int) := by rw [IntKind.wrap_i64]; omega
            have hw2 : IntKind.i64.wrap (4 * (n : Int) + (i : Int)) = 4 * (n : Int) + (i : Int) := by rw [IntKind.wrap_i64]; omega
            have hbt := bt_at s (4 * (n : Int) + (i : Int))
            have hi0 : (0 : Int) ≤ 4 * (n : Int) + (i : Int) := by omega
            have hi1 : 4 * (n : Int) + (i : Int) < 64 := by omega
            have S3 : Hid ((wr.setCell ⟨g + 1, n, none⟩ (.int .u32 (byte1 s n i (acc s n i x0)))).drew.heap[g + 1]? = some (.cells (row ((SP s n).set n (acc s n (i + 1) x0))) 64 (0, 0))) := Lib.hid (by
              have := row_put S2.out n (byte1 s n i (acc s n i x0))
              rw [List.set_set] at this
              exact this)
            have S4 : Hid ((wr.setCell ⟨g + 1, n, none⟩ (.int .u32 (byte1 s n i (acc s n i x0)))).drew.heap[g]? = some (.cells (row Z64) 64 (0, 0))) := Lib.hid (blk_far S1.out (p := ⟨g + 1, n, none⟩) n1 _)
            have F3 : Hid (Below w.heap.size w (wr.setCell ⟨g + 1, n, none⟩ (.int .u32 (byte1 s n i (acc s n i x0)))).drew) := Lib.hid (below_drew1 (below_set F.out hg1))
            unfold byte1 at S3 S4 F3
            clear S1 S2 F
            generalize acc s n i x0 = y at hk S3 S4 F3
            go_wp2
            go_region
            go_wp2
            go_roundw
            case rel => exact ⟨i + 1, by omega, by go_num, S3, S4, F3⟩
            case measure => simp [intOf]; omega
          · have hlt4 : ¬ (i : Int) < 4 := by omega
            obtain rfl : i = 4 := by omega
            have S3 : Hid (wr.heap[g + 1]? = some (.cells (row (SP s (n + 1))) 64 (0, 0))) := Lib.hid (by rw [HS.out]; exact S2.out)
            clear S2
            go_wp2
            refine ⟨⟨n + 1, by omega, by go_num, S3, S1, F⟩, by simp [intOf]; omega⟩
      · have hlt2 : ¬ (n : Int) < 16 := by omega
        obtain ⟨x15, hx15⟩ : ∃ x, (SP s n).getD (n - 15) 0 = x := ⟨_, rfl⟩
        obtain ⟨x2, hx2⟩ : ∃ x, (SP s n).getD (n - 2) 0 = x := ⟨_, rfl⟩
        obtain ⟨x16, hx16⟩ : ∃ x, (SP s n).getD (n - 16) 0 = x := ⟨_, rfl⟩
        obtain ⟨x7, hx7⟩ : ∃ x, (SP s n).getD (n - 7) 0 = x := ⟨_, rfl⟩
        have k15 := row_get S2.out (n - 15) (by omega)
        have k2 := row_get S2.out (n - 2) (by omega)
        rw [hx15] at k15
        rw [hx2] at k2
        have hSP : SP s (n + 1) = (SP s n).set n (word2 x16 x7 x15 x2) := by rw [SP, word, if_neg h16, hx15, hx2, hx16, hx7]
        have HS := Lib.hid hSP
        have H16 := Lib.hid hx16
        have H7 := Lib.hid hx7
        clear hSP hx15 hx2 hx16 hx7
        have e15 : IntKind.i64.wrap ((n : Int) - 15) = ((n - 15 : Nat) : Int) := by rw [IntKind.wrap_i64]; omega
        have e2 : IntKind.i64.wrap ((n : Int) - 2) = ((n - 2 : Nat) : Int) := by rw [IntKind.wrap_i64]; omega
        go_wp2_with fail
        go_quiet (fail)
        go_wp2_with fail
        clear k15 k2
        have S3 := Lib.hid (show (wr.drewN nq).heap[g + 1]? = _ from blk_below S2.out (pw_below_drewN (Below.refl _ _) nq))
        have S4 := Lib.hid (show (wr.drewN nq).heap[g]? = _ from blk_below S1.out (pw_below_drewN (Below.refl _ _) nq))
        have F3 := Lib.hid (below_step F.out (pw_below_drewN (Below.refl _ _) nq))
        clear S1 S2 F
        generalize wr.drewN nq = w3 at S3 S4 F3 ⊢
        have k16 := row_get S3.out (n - 16) (by omega)
        have k7 := row_get S3.out (n - 7) (by omega)
        rw [H16.out] at k16
        rw [H7.out] at k7
        have e16 : IntKind.i64.wrap ((n : Int) - 16) = (n : Int) - 16 := by rw [IntKind.wrap_i64]; omega
        have e7 : IntKind.i64.wrap ((n : Int) - 7) = (n : Int) - 7 := by rw [IntKind.wrap_i64]; omega
        have a16 : (0 : Int) ≤ (n : Int) - 16 := by omega
        have b16 : (n : Int) - 16 < 64 := by omega
        have c16 : ((n : Int) - 16).toNat = n - 16 := by omega
        have d7 : (7 : Int) ≤ (n : Int) := by omega
        have b7 : (n : Int) - 7 < 64 := by omega
        have c7 : ((n : Int) - 7).toNat = n - 7 := by omega
        go_still_tail 28, (by kernel_rfl)
        still_call (right7 _ _)
        repeat still_step
        still_call (right18 _ _)
        repeat still_step
        still_call (right17 _ _)
        repeat still_step
        still_call (right19 _ _)
        repeat still_step
        try refine wpStill_nil ?_
        change wpList _ _ _ _ _ w3.drew
        have S5 : Hid (w3.drew.heap[g + 1]? = _) := S3
        have S6 : Hid (w3.drew.heap[g]? = _) := S4
        have F5 := Lib.hid (below_drew1 F3.out)
        clear S3 S4 F3 k16 k7
        generalize w3.drew = w4 at S5 S6 F5 ⊢
        have hk := row_get S5.out n (by omega)
        have hf := row_fr S5.out n
        have S7 : Hid ((w4.setCell ⟨g + 1, n, none⟩ (.int .u32 (word2 x16 x7 x15 x2))).heap[g + 1]? = some (.cells (row (SP s (n + 1))) 64 (0, 0))) := Lib.hid (by rw [HS.out]; exact row_put S5.out n (word2 x16 x7 x15 x2))
        have S8 : Hid ((w4.setCell ⟨g + 1, n, none⟩ (.int .u32 (word2 x16 x7 x15 x2))).heap[g]? = some (.cells (row Z64) 64 (0, 0))) := Lib.hid (blk_far S6.out (p := ⟨g + 1, n, none⟩) n1 _)
        have F7 : Hid (Below w.heap.size w (w4.setCell ⟨g + 1, n, none⟩ (.int .u32 (word2 x16 x7 x15 x2)))) := Lib.hid (below_set F5.out hg1)
        clear S5 S6 F5
        go_wp2
        go_roundw
        case rel => exact ⟨n + 1, by omega, by go_num, S7, S8, F7⟩
        case measure => simp [intOf]; omega
    · have hlt : ¬ (n : Int) < 64 := by omega
      obtain rfl : n = 64 := by omega
      go_upto_region 14 with (fail)
      go_step
      have hsz : (row (SP s 64)).size = 64 := by rw [row, List.size_toArray, List.length_map, SP_len]
      have hi64 : (Try.prog.info? 64).map (·.size) = some 64 := by kernel_rfl
      rw [HLL.out] at S2 hsz
      refine wpList_load_row rfl 64 _ rfl (g + 1) rfl 64 _ _ _ S2.out Try.underlying64 rfl (by rw [hsz]; exact hi64) ?_
      refine wpList_store_row rfl 64 _ _ rfl g (row LL) rfl rfl 64 _ S1.out (by rw [hsz]; exact hi64) (by rw [hsz]; rfl) (row_one _) ?_
      have S3 := Lib.hid (setRow_heap wr g _ (row LL) 64 (0, 0) S1.out)
      have F3 : Hid (Below w.heap.size w (wr.setRow g (row LL))) := Lib.hid (below_row F.out hg0)
      clear S1 S2 F
      generalize wr.setRow g _ = w9 at S3 F3 ⊢
      go_wp2
      refine bodyPost_ret (results_cell_row rfl _ _ g 64 (row LL) (0, 0) _ rfl S3.out Try.underlying64 rfl (by rw [hsz]; exact hi64)) rfl ?_
      exact ⟨rfl, by rw [← hg]; exact F3.out⟩
end Go.Proofs.Ytndfpidilodmgaa.Hand
