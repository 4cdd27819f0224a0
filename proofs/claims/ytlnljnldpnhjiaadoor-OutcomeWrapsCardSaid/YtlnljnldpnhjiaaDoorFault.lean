/- The package fault: errors at places, as chains. -/
import Derived.Test.YtlnljnldpnhjiaaDoorErrsAs2
import Derived.Test.YtlnljnldpnhjiaaDoorRows0
namespace Go.Proofs.YtlnljnldpnhjiaaDoor.Hand
open Go.RowKit Go.Extern.Stop Go.Stop Go.Extern Go.Proofs.YtlnljnldpnhjiaaDoorW.PrintWords Go.Proofs.YtlnljnldpnhjiaaDoorW.PrintLast
set_option linter.unusedVariables false
set_option linter.unusedSimpArgs false
def namesL : List ByteArray := [(⟨#[]⟩ : ByteArray), (⟨#[108, 111, 119]⟩ : ByteArray), (⟨#[104, 105, 103, 104]⟩ : ByteArray), (⟨#[97, 99, 99, 111, 117, 110, 116, 115]⟩ : ByteArray), (⟨#[112, 111, 111, 108]⟩ : ByteArray), (⟨#[108, 105, 110, 101]⟩ : ByteArray), (⟨#[108, 101, 100, 103, 101, 114]⟩ : ByteArray), (⟨#[119, 111, 114, 108, 100]⟩ : ByteArray), (⟨#[110, 117, 109, 98, 101, 114, 115]⟩ : ByteArray), (⟨#[115, 117, 98, 109, 105, 116]⟩ : ByteArray)]
def wordsL : List ByteArray := [(⟨#[111, 107]⟩ : ByteArray), (⟨#[97, 114, 103]⟩ : ByteArray), (⟨#[115, 104, 111, 114, 116]⟩ : ByteArray), (⟨#[102, 111, 114, 109]⟩ : ByteArray), (⟨#[108, 111, 110, 103]⟩ : ByteArray), (⟨#[114, 97, 110, 103, 101]⟩ : ByteArray), (⟨#[102, 117, 108, 108]⟩ : ByteArray), (⟨#[101, 120, 105, 115, 116, 115]⟩ : ByteArray), (⟨#[110, 111, 110, 101]⟩ : ByteArray), (⟨#[110, 111, 116, 32, 111, 119, 110, 101, 114]⟩ : ByteArray), (⟨#[115, 116, 97, 116, 101]⟩ : ByteArray), (⟨#[101, 120, 104, 97, 117, 115, 116, 101, 100]⟩ : ByteArray), (⟨#[101, 112, 111, 99, 104]⟩ : ByteArray), (⟨#[110, 111, 110, 99, 101]⟩ : ByteArray), (⟨#[112, 111, 111, 108]⟩ : ByteArray), (⟨#[114, 101, 100, 117, 110, 100, 97, 110, 116]⟩ : ByteArray), (⟨#[114, 101, 106, 101, 99, 116, 101, 100]⟩ : ByteArray), (⟨#[99, 108, 111, 115, 101, 100]⟩ : ByteArray), (⟨#[112, 114, 111, 111, 102]⟩ : ByteArray), (⟨#[111, 114, 100, 101, 114]⟩ : ByteArray), (⟨#[108, 97, 116, 101]⟩ : ByteArray), (⟨#[101, 97, 114, 108, 121]⟩ : ByteArray), (⟨#[99, 114, 97, 115, 104]⟩ : ByteArray), (⟨#[115, 116, 111, 112, 112, 101, 100]⟩ : ByteArray), (⟨#[97, 99, 99, 111, 117, 110, 116]⟩ : ByteArray), (⟨#[99, 104, 97, 110, 110, 101, 108]⟩ : ByteArray)]
def wordsA : Array Value := (wordsL.map Value.string).toArray
/-- A place's name. -/
def nameOf (p : Int) : ByteArray := if 0 ≤ p ∧ p ≤ 9 then namesL.getD p.toNat (⟨#[]⟩ : ByteArray) else (⟨#[]⟩ : ByteArray)
/-- A number's word. -/
def wordOf (c : Int) : ByteArray := if 0 ≤ c ∧ c < 26 then wordsL.getD c.toNat (⟨#[]⟩ : ByteArray) else (⟨#[117, 110, 107, 110, 111, 119, 110]⟩ : ByteArray)
def lenOf : Value → Nat
  | .slice _ n _ => n
  | _ => 0
def Leaf.num : Leaf → Int
  | .code c => c
  | .text _ => 1
theorem name_walk (p : Int) (w : World) : Calls Tryd.prog 25 #[.int .i64 p] w fun e w' => e = .returned (.string (nameOf p)) ∧ w = w' := by
  by_cases h1 : p = 1
  · subst h1
    go_enter Tryd.func25, Tryd.ntmps25
    go_wp2
    go_ret
    exact ⟨rfl, rfl⟩
  by_cases h2 : p = 2
  · subst h2
    go_enter Tryd.func25, Tryd.ntmps25
    go_wp2
    go_ret
    exact ⟨rfl, rfl⟩
  by_cases h3 : p = 3
  · subst h3
    go_enter Tryd.func25, Tryd.ntmps25
    go_wp2
    go_ret
    exact ⟨rfl, rfl⟩
  by_cases h4 : p = 4
  · subst h4
    go_enter Tryd.func25, Tryd.ntmps25
    go_wp2
    go_ret
    exact ⟨rfl, rfl⟩
  by_cases h5 : p = 5
  · subst h5
    go_enter Tryd.func25, Tryd.ntmps25
    go_wp2
    go_ret
    exact ⟨rfl, rfl⟩
  by_cases h6 : p = 6
  · subst h6
    go_enter Tryd.func25, Tryd.ntmps25
    go_wp2
    go_ret
    exact ⟨rfl, rfl⟩
  by_cases h7 : p = 7
  · subst h7
    go_enter Tryd.func25, Tryd.ntmps25
    go_wp2
    go_ret
    exact ⟨rfl, rfl⟩
  by_cases h8 : p = 8
  · subst h8
    go_enter Tryd.func25, Tryd.ntmps25
    go_wp2
    go_ret
    exact ⟨rfl, rfl⟩
  by_cases h9 : p = 9
  · subst h9
    go_enter Tryd.func25, Tryd.ntmps25
    go_wp2
    go_ret
    exact ⟨rfl, rfl⟩
  have b1 : (p == 1) = false := by simpa using h1
  have b2 : (p == 2) = false := by simpa using h2
  have b3 : (p == 3) = false := by simpa using h3
  have b4 : (p == 4) = false := by simpa using h4
  have b5 : (p == 5) = false := by simpa using h5
  have b6 : (p == 6) = false := by simpa using h6
  have b7 : (p == 7) = false := by simpa using h7
  have b8 : (p == 8) = false := by simpa using h8
  have b9 : (p == 9) = false := by simpa using h9
  have hn : nameOf p = (⟨#[]⟩ : ByteArray) := by
    unfold nameOf
    split
    · have : p = 0 := by omega
      subst this
      rfl
    · rfl
  have HN := Lib.hid hn
  clear hn h1 h2 h3 h4 h5 h6 h7 h8 h9
  go_enter Tryd.func25, Tryd.ntmps25
  go_wp2
  go_ret
  exact ⟨by rw [HN.out]; rfl, rfl⟩
theorem word_walk (c : Int) (w : World) : Calls Tryd.prog 37 #[.int .i64 c] w fun e w' => e = .returned (.string (wordOf c)) ∧ Below w.heap.size w w' := by
  by_cases h : 0 ≤ c ∧ c < 26
  · obtain ⟨k, rfl⟩ : ∃ k : Nat, c = k := ⟨c.toNat, by omega⟩
    have hk : k < 26 := by omega
    have ht : wordsL[k]? = some (wordOf k) := by
      unfold wordOf
      rw [if_pos h, Int.toNat_natCast, List.getD_eq_getElem?_getD, List.getElem?_eq_getElem (show k < wordsL.length from hk)]
      rfl
    generalize wordOf k = x at ht ⊢
    have HT := Lib.hid ht
    have h0 : (0 : Int) ≤ (k : Int) := h.1
    have h1 : (k : Int) < 26 := h.2
    clear ht h
    go_enter Tryd.func37, Tryd.ntmps37
    go_upto_region 1 with (fail)
    go_step
    refine wpList_build_to rfl 82 _ rfl wordsA (by kernel_rfl) ?_
    refine wpList_alloc_to rfl 82 rfl (Array.replicate 26 (.string ⟨#[]⟩)) 26 (by kernel_rfl) ?_
    refine wpList_store_row rfl 82 _ _ rfl w.heap.size wordsA rfl rfl 82 _ (heap_alloc_new w _) (by kernel_rfl) (by kernel_rfl) (by kernel_rfl) ?_
    rw [World.setRow_alloc_new]
    have S := Lib.hid (heap_alloc_new w (.cells wordsA 82))
    have F := Lib.hid (below_alloc (Below.refl w.heap.size w) (.cells wordsA 82))
    have hc : (w.alloc (.cells wordsA 82)).cell? ⟨w.heap.size, k, none⟩ = some (.string x) := by
      rw [cell_of_row _ _ k _ _ _ S.out]
      simp only [wordsA, List.getElem?_toArray, List.getElem?_map, HT.out, Option.map_some]
    clear S
    generalize w.alloc _ = w1 at hc F ⊢
    generalize w.heap.size = g at hc ⊢
    go_wp2
    go_ret
    exact ⟨rfl, F.out⟩
  · have hx : wordOf c = (⟨#[117, 110, 107, 110, 111, 119, 110]⟩ : ByteArray) := by unfold wordOf; rw [if_neg h]
    rw [hx]
    clear hx
    go_enter Tryd.func37, Tryd.ntmps37
    go_upto_region 1 with (fail)
    go_step
    refine wpList_build_to rfl 82 _ rfl wordsA (by kernel_rfl) ?_
    refine wpList_alloc_to rfl 82 rfl (Array.replicate 26 (.string ⟨#[]⟩)) 26 (by kernel_rfl) ?_
    refine wpList_store_row rfl 82 _ _ rfl w.heap.size wordsA rfl rfl 82 _ (heap_alloc_new w _) (by kernel_rfl) (by kernel_rfl) (by kernel_rfl) ?_
    rw [World.setRow_alloc_new]
    have F := Lib.hid (below_alloc (Below.refl w.heap.size w) (.cells wordsA 82))
    generalize w.alloc _ = w1 at F ⊢
    generalize w.heap.size = g at ⊢
    by_cases hneg : c < 0
    · clear h
      go_wp2
      go_ret
      exact ⟨rfl, F.out⟩
    · have hge : (26 : Int) ≤ c := by omega
      clear h
      go_wp2
      go_ret
      exact ⟨rfl, F.out⟩
/-- fault.At of an error that is one. -/
theorem at_walk (p : Int) (u : TypeId) (v : Value) (w : World) : Calls Tryd.prog 19 #[.int .i64 p, .iface u v] w fun e w' => e = .returned (.iface 43 (.pointer (some ⟨w.heap.size, 0, none⟩))) ∧ w.alloc (.cells #[.int .i64 p, .iface u v] 58) = w' := by
  go_enter Tryd.func19, Tryd.ntmps19
  go_wp2
  go_ret
  exact ⟨rfl, rfl⟩
theorem at_nil (p : Int) (w : World) : Calls Tryd.prog 19 #[.int .i64 p, .nilIface] w fun e w' => e = .returned .nilIface ∧ w = w' := by
  go_enter Tryd.func19, Tryd.ntmps19
  go_wp2
  go_ret
  exact ⟨rfl, rfl⟩
theorem EC.push {w : World} {f : Leaf} {E : Value} {l : List Int} (h : EC w f E l) (p : Int) : EC (w.alloc (.cells #[.int .i64 p, E] 58)) f (.iface 43 (.pointer (some ⟨w.heap.size, 0, none⟩))) (p :: l) :=
  ⟨_, E, rfl, blk_new w _, h.below (below_alloc (Below.refl _ _) _)⟩
/-- fault.At, over chains. -/
theorem at_chain (p : Int) (f : Leaf) (E : Value) (l : List Int) (w : World) (h : EC w f E l) : Calls Tryd.prog 19 #[.int .i64 p, E] w fun e w' => ∃ E', e = .returned E' ∧ EC w' f E' (p :: l) ∧ Below w.heap.size w w' := by
  obtain ⟨u, v, rfl⟩ := h.held
  refine (at_walk p u v w).mono ?_
  rintro e w' ⟨rfl, rfl⟩
  exact ⟨_, rfl, h.push p, below_alloc (Below.refl _ _) _⟩
theorem of_none (A : Option Addr) (c n : Nat) (w : World) : Calls Tryd.prog 10 #[.int .i64 0, .slice A n c] w fun e w' => e = .returned .nilIface ∧ w = w' := by
  go_enter Tryd.func10, Tryd.ntmps10
  go_wp2
  go_ret
  exact ⟨rfl, rfl⟩
set_option maxRecDepth 100000 in
/-- fault.Of. -/
theorem of_walk (x : Int) (hx : x ≠ 0) (A : Option Addr) (c : Nat) (l : List Int) (w : World) (hr : Kd.C (Kd.int .i64) w A l.length l) (hl : l.length ≤ 1000) :
    Calls Tryd.prog 10 #[.int .i64 x, .slice A l.length c] w fun e w' => ∃ E, e = .returned E ∧ EC w' (.code x) E l.reverse ∧ Below w.heap.size w w' := by
  have HR := Lib.hid hr
  have HL := Lib.hid hl
  have e0 : (x == 0) = false := by simpa using hx
  clear hr hx hl
  go_enter Tryd.func10, Tryd.ntmps10
  go_wp2_with fail
  go_loopw [14, 5, 7] (fun v14 v5 v7 wr => ∃ (k : Nat) (E : Value), k ≤ l.length ∧ v14 = .int .i64 k ∧ v5 = E ∧ Hid (EC wr (.code x) E (l.take k).reverse) ∧ Hid (Below w.heap.size w wr)) (fun v14 _ _ _ => 2000 - (intOf v14).toNat)
  case atStart => exact ⟨0, _, Nat.zero_le _, rfl, rfl, Lib.hid rfl, Lib.hid (Below.refl _ _)⟩
  case round =>
    obtain ⟨k, E, hk, rfl, rfl, HE, HB⟩ := hrel
    by_cases h : k < l.length
    · have hlt : (k : Int) < (l.length : Int) := by omega
      have hk1000 : (k : Int) < 1000 := by have := HL.out; omega
      obtain ⟨ad, c0, rfl, hcl, hK, hcc⟩ := Kd.C_get HR.out 0 k (by omega) (by omega)
      have hK' : c0 = [.int .i64 (l.getD k 0)] := hK
      subst hK'
      have hcell0 : w.cell? (ad.add k) = some (.int .i64 (l.getD k 0)) := by have := hcc 0 _ rfl; simpa [Kd.int, Kd.scalar] using this
      have hcell := (HB.out.cell (cell_lt hcell0)).trans hcell0
      have hg : (l.take (k + 1)).reverse = l.getD k 0 :: (l.take k).reverse := by rw [List.take_succ_eq_append_getElem h, List.reverse_append, List.getD_eq_getElem?_getD, List.getElem?_eq_getElem h]; rfl
      generalize l.getD k 0 = y at hcell hg
      have HG := Lib.hid hg
      have HAT := Lib.hid (at_chain y (.code x) u5 _ wr HE.out)
      clear hcc hK hcl hcell0 hg HE
      go_wp2_with (go_at_call 19; (with_reducible refine HAT.out.mono ?_); rintro e w2 ⟨E2, rfl, hE2, hb2⟩; have HE2 := Lib.hid hE2; have HB2 := Lib.hid (below_step HB.out hb2); clear hE2 hb2)
      go_roundw
      case rel => exact ⟨k + 1, _, h, by go_num, rfl, Lib.hid (by rw [HG.out]; exact HE2.out), HB2⟩
      case measure => simp [intOf]; omega
    · have hge : ¬ (k : Int) < (l.length : Int) := by omega
      have hkk : k = l.length := by omega
      subst hkk
      go_wp2
      go_ret
      exact ⟨_, rfl, by have := HE.out; rwa [List.take_length] at this, HB.out⟩

theorem grown_none {w w2 : World} (h : Below w.heap.size w w2) (r : Option Nat) : w.grownBy w2 r := ⟨h.os, h.tape, h.output, h.size, fun k hk _ => h.block k hk⟩
theorem grown_some {w w2 : World} (h : w.grownBy w2 none) (r : Option Nat) : w.grownBy w2 r := ⟨h.os, h.tape, h.output, h.size, fun k hk _ => h.block k hk (by simp)⟩
theorem grown_below {w w2 : World} (h : w.grownBy w2 none) : Below w.heap.size w w2 := ⟨h.os, h.tape, h.output, h.size, fun k hk => h.block k hk (by simp)⟩
/-- errors.As at a number: the number that is wrapped. -/
theorem AsE_code (w : World) (d : Int) (E : Value) (l : List Int) (t : Nat) (old : Value) (h : EC w (.code d) E l) (hg : w.cell? ⟨0, 0, none⟩ = some (.iface 84 (.agg #[.pointer (some ⟨1, 26, none⟩)]))) (ht : w.heap[t]? = some (.cells #[old] 22 (0, 0))) :
    Calls Tryd.prog 36 #[E, .iface 55 (.pointer (some ⟨t, 0, none⟩))] w fun e w' => e = .returned (.bool true) ∧ w'.heap[t]? = some (.cells #[.int .i64 d] 22 (0, 0)) ∧ w.grownBy w' (some t) := by
  obtain ⟨u, v, rfl⟩ := h.held
  refine (errorsAsE w u v t hg (blk_lt ht) (fun r w' => r = true ∧ w'.heap[t]? = some (.cells #[.int .i64 d] 22 (0, 0)) ∧ w.grownBy w' (some t)) (fun w2 hb hc => ?_)).mono ?_
  · refine (asE_hit w2 d _ t old _ l (h.below hb) hc ((hb.block t (blk_lt ht)).trans ht)).mono ?_
    rintro e w' ⟨rfl, h1, h2⟩
    exact ⟨true, rfl, rfl, h1, (grown_none hb _).trans h2⟩
  · rintro e w' ⟨r, rfl, rfl, h1, h2⟩
    exact ⟨rfl, h1, h2⟩
theorem AsE_text (w : World) (x : Nat) (E : Value) (l : List Int) (t : Nat) (h : EC w (.text x) E l) (hg : w.cell? ⟨0, 0, none⟩ = some (.iface 84 (.agg #[.pointer (some ⟨1, 26, none⟩)]))) (ht : t < w.heap.size) :
    Calls Tryd.prog 36 #[E, .iface 55 (.pointer (some ⟨t, 0, none⟩))] w fun e w' => e = .returned (.bool false) ∧ w.grownBy w' none := by
  obtain ⟨u, v, rfl⟩ := h.held
  refine (errorsAsE w u v t hg ht (fun r w' => r = false ∧ w.grownBy w' none) (fun w2 hb hc => ?_)).mono ?_
  · refine (asE_miss w2 x _ t _ l (h.below hb)).mono ?_
    rintro e w' ⟨rfl, h2⟩
    exact ⟨false, rfl, rfl, (grown_none hb _).trans h2⟩
  · rintro e w' ⟨r, rfl, rfl, h2⟩
    exact ⟨rfl, h2⟩
/-- errors.As at a fault. -/
theorem AsF_hit (w : World) (b : Nat) (t : Nat) (old : Value) (hg : w.cell? ⟨0, 0, none⟩ = some (.iface 84 (.agg #[.pointer (some ⟨1, 26, none⟩)]))) (ht : w.heap[t]? = some (.cells #[old] 43 (0, 0))) :
    Calls Tryd.prog 36 #[.iface 43 (.pointer (some ⟨b, 0, none⟩)), .iface 56 (.pointer (some ⟨t, 0, none⟩))] w fun e w' => e = .returned (.bool true) ∧ w'.heap[t]? = some (.cells #[.pointer (some ⟨b, 0, none⟩)] 43 (0, 0)) ∧ w.grownBy w' (some t) := by
  refine (errorsAsF w _ _ t hg (blk_lt ht) (fun r w' => r = true ∧ w'.heap[t]? = some (.cells #[.pointer (some ⟨b, 0, none⟩)] 43 (0, 0)) ∧ w.grownBy w' (some t)) (fun w2 hb hc => ?_)).mono ?_
  · refine (asF_hit w2 b _ t old hc ((hb.block t (blk_lt ht)).trans ht)).mono ?_
    rintro e w' ⟨rfl, h1, h2⟩
    exact ⟨true, rfl, rfl, h1, (grown_none hb _).trans h2⟩
  · rintro e w' ⟨r, rfl, rfl, h1, h2⟩
    exact ⟨rfl, h1, h2⟩
theorem AsF_leaf (w : World) (f : Leaf) (t : Nat) (hg : w.cell? ⟨0, 0, none⟩ = some (.iface 84 (.agg #[.pointer (some ⟨1, 26, none⟩)]))) (ht : t < w.heap.size) :
    Calls Tryd.prog 36 #[f.val, .iface 56 (.pointer (some ⟨t, 0, none⟩))] w fun e w' => e = .returned (.bool false) ∧ w.grownBy w' none := by
  obtain ⟨u, v, huv⟩ : ∃ u v, f.val = .iface u v := by cases f <;> exact ⟨_, _, rfl⟩
  rw [huv]
  refine (errorsAsF w u v t hg ht (fun r w' => r = false ∧ w.grownBy w' none) (fun w2 hb hc => ?_)).mono ?_
  · rw [← huv]
    refine (asF_miss w2 f _ t).mono ?_
    rintro e w' ⟨rfl, h2⟩
    exact ⟨false, rfl, rfl, (grown_none hb _).trans h2⟩
  · rintro e w' ⟨r, rfl, rfl, h2⟩
    exact ⟨rfl, h2⟩
theorem code_none (w : World) : Calls Tryd.prog 11 #[.nilIface] w fun e w' => e = .returned (.int .i64 0) ∧ w = w' := by
  go_enter Tryd.func11, Tryd.ntmps11
  go_wp2
  go_ret
  exact ⟨rfl, rfl⟩
theorem below_new {w w' : World} {o : Obj} (h : (w.alloc o).grownBy w' (some w.heap.size)) : Below w.heap.size w w' :=
  (below_alloc (Below.refl _ _) o).grown h (by simp) (fun k hk => by rw [← Option.some.inj hk]; exact Nat.le_refl _)
theorem below_new' {w w' : World} {o : Obj} (h : (w.alloc o).grownBy w' none) : Below w.heap.size w w' := below_new (grown_some h _)
/-- fault.Code. -/
theorem code_walk (f : Leaf) (E : Value) (l : List Int) (w : World) (hg : w.cell? ⟨0, 0, none⟩ = some (.iface 84 (.agg #[.pointer (some ⟨1, 26, none⟩)]))) (h : EC w f E l) :
    Calls Tryd.prog 11 #[E] w fun e w' => e = .returned (.int .i64 f.num) ∧ Below w.heap.size w w' := by
  have hb0 : Below w.heap.size w (w.alloc (.cells #[.int .i64 0] 22)) := below_alloc (Below.refl _ _) _
  have hg1 := (World.cell?_alloc_lt w (.cells #[.int .i64 0] 22) ⟨0, 0, none⟩ (cell_lt hg)).trans hg
  have h1 := h.below hb0
  obtain ⟨u, v, rfl⟩ := h.held
  cases f with
  | code d =>
    have HA := Lib.hid (AsE_code _ d _ l w.heap.size _ h1 hg1 (blk_new w (.cells #[.int .i64 0] 22)))
    clear h h1 hg hg1 hb0
    go_enter Tryd.func11, Tryd.ntmps11
    go_wp2_with (go_at_call 36; (with_reducible refine HA.out.mono ?_); rintro e w2 ⟨rfl, h3, h4⟩; have k0 := blk_cell h3 0; have HB := Lib.hid (below_new h4); clear h3 h4)
    go_ret
    exact ⟨rfl, HB.out⟩
  | text x =>
    have HA := Lib.hid (AsE_text _ x _ l w.heap.size h1 hg1 (by simp))
    clear h h1 hg hg1 hb0
    go_enter Tryd.func11, Tryd.ntmps11
    go_wp2_with (go_at_call 36; (with_reducible refine HA.out.mono ?_); rintro e w2 ⟨rfl, h4⟩; have HB := Lib.hid (below_new' h4); clear h4)
    go_ret
    exact ⟨rfl, HB.out⟩
theorem fis_none (c : Int) (w : World) : Calls Tryd.prog 14 #[.nilIface, .int .i64 c] w fun e w' => e = .returned (.bool (c == 0)) ∧ w = w' := by
  go_enter Tryd.func14, Tryd.ntmps14
  go_wp2
  go_ret
  exact ⟨rfl, rfl⟩
/-- fault.Is. -/
theorem fis_walk (f : Leaf) (c : Int) (E : Value) (l : List Int) (w : World) (h : EC w f E l) :
    Calls Tryd.prog 14 #[E, .int .i64 c] w fun e w' => e = .returned (.bool (c != 0 && f.is c)) ∧ w = w' := by
  have HI := Lib.hid (errorsIs_walk w f c E l h)
  obtain ⟨u, v, rfl⟩ := h.held
  clear h
  by_cases hc : c = 0
  · subst hc
    go_enter Tryd.func14, Tryd.ntmps14
    go_wp2
    go_ret
    exact ⟨rfl, rfl⟩
  · have e0 : (c == 0) = false := by simpa using hc
    have e1 : (c != 0 && f.is c) = f.is c := by simp [hc]
    rw [e1]
    clear e1
    go_enter Tryd.func14, Tryd.ntmps14
    go_wp2_with (go_at_call 18; (with_reducible refine HI.out.mono ?_); rintro e w2 ⟨rfl, rfl⟩)
    go_ret
    exact ⟨rfl, rfl⟩
theorem infoInt : ∃ i, Tryd.prog.info? 3 = some i ∧ i.zero = some (.int .i64 0) ∧ i.size = 1 ∧ i.bytes = 8 := by
  have h : (Tryd.prog.info? 3).map (fun i => (i.zero, i.size, i.bytes)) = some (some (.int .i64 0), 1, 8) := by kernel_rfl
  cases hh : Tryd.prog.info? 3 with
  | none => rw [hh] at h; cases h
  | some i => rw [hh] at h; injection h with h; injection h with e1 h; injection h with e2 e3; exact ⟨i, rfl, e1, e2, e3⟩
theorem own_succ' {W : World} {B e m : Nat} {v : Value} {xs : List Value} (h : W.ownsRow B e 1 v (m + 1) xs) : ∃ g c, v = .slice (some ⟨g, 0, none⟩) (m + 1) c := by
  rcases h.2 with ⟨_, hz⟩ | ⟨g, cap, cur, e1, _⟩
  · omega
  · exact ⟨g, cap, e1⟩
theorem own_ne' {W : World} {B e size n : Nat} {v : Value} {xs : List Value} {j t : Nat} {cs : Array Value} {fr : Nat × Nat} (h : W.ownsRow B e size v n xs) (hj : W.heap[j]? = some (.cells cs t fr)) (ht : t ≠ e) : some j ≠ v.ownBlock := by
  rcases h.2 with ⟨rfl, _⟩ | ⟨g, cap, cur, rfl, _, hg, _⟩
  · simp [Value.ownBlock]
  · intro e1
    simp only [Value.ownBlock, Option.some.injEq] at e1
    subst e1
    rw [hj] at hg
    injection hg with hg
    injection hg with _ h2 _
    exact ht h2
theorem row_kept {W W' : World} {B e size n : Nat} {v : Value} {xs : List Value} {j t : Nat} {cs : Array Value} {fr : Nat × Nat} (h : W.ownsRow B e size v n xs) (hg : W.grownBy W' v.ownBlock) (hj : W.heap[j]? = some (.cells cs t fr)) (ht : t ≠ e) : W'.heap[j]? = some (.cells cs t fr) :=
  (hg.block j (by rcases Nat.lt_or_ge j W.heap.size with h1 | h1; exact h1; rw [Array.getElem?_eq_none h1] at hj; cases hj) (own_ne' h hj ht)).trans hj
theorem EC.rowKept {W W' : World} {f : Leaf} {B e size n : Nat} {v : Value} {xs : List Value} (ho : W.ownsRow B e size v n xs) (he : 58 ≠ e) (hg : W.grownBy W' v.ownBlock) : ∀ {l : List Int} {E : Value}, EC W f E l → EC W' f E l
  | [], _, h => h
  | _ :: _, _, ⟨b, E', h1, h2, h3⟩ => ⟨b, E', h1, row_kept ho hg h2 he, EC.rowKept ho he hg h3⟩
theorem own_form {W : World} {B e m : Nat} {v : Value} {xs : List Value} (h : W.ownsRow B e 1 v m xs) : ∃ A c, v = .slice A m c := by
  rcases h.2 with ⟨e1, hz⟩ | ⟨g, cap, cur, e1, _⟩
  · subst hz; exact ⟨_, _, e1⟩
  · exact ⟨_, _, e1⟩
theorem places_none (w : World) : Calls Tryd.prog 12 #[.nilIface] w fun e w' => e = .returned (.slice none 0 0) ∧ Below w.heap.size w w' := by
  go_enter Tryd.func12, Tryd.ntmps12
  go_wp2
  refine wp_loop_rounds 1 ?_
  rw [rounds_succ]
  go_wp2
  go_ret
  exact ⟨rfl, below_alloc (Below.refl _ _) _⟩
set_option maxRecDepth 100000 in
set_option maxHeartbeats 1000000 in
/-- fault.Places. -/
theorem places_walk (f : Leaf) (E : Value) (l : List Int) (hl : l.length ≤ 1000) (w : World) (hg : w.cell? ⟨0, 0, none⟩ = some (.iface 84 (.agg #[.pointer (some ⟨1, 26, none⟩)]))) (h : EC w f E l) :
    Calls Tryd.prog 12 #[E] w fun e w' => ∃ v, e = .returned v ∧ Kd.R (Kd.int .i64) 3 w' w.heap.size (fun _ => True) v l ∧ Below w.heap.size w w' := by
  obtain ⟨t3, t31, t32, t33, t34⟩ := infoInt
  have H := Lib.hid h
  have HG := Lib.hid hg
  have HL := Lib.hid hl
  clear h hg hl
  go_enter Tryd.func12, Tryd.ntmps12
  go_wp2_with fail
  go_loopw [0, 3, 4] (fun v0 v3 v4 wr => ∃ (d r : List Int), Hid (d ++ r = l) ∧ Hid (EC wr f v0 r) ∧ Hid (wr.ownsRow w.heap.size 3 1 v3 d.length (encs (Value.int .i64) d)) ∧ Hid (Below w.heap.size w wr) ∧ (∃ A c, v3 = .slice A d.length c) ∧ d.length ≤ 1000) (fun _ v3 _ _ => 2000 - lenOf v3)
  case atStart => exact ⟨[], l, Lib.hid rfl, H, Lib.hid (Kd.own_of_R (Kd.R_nil (Kd.int .i64) _ _ _ (fun _ => True))), Lib.hid (Below.refl _ _), ⟨none, 0, rfl⟩, by simp⟩
  case round =>
    obtain ⟨d, r, HD, HE, HO, HB, ⟨A3, c3, rfl⟩, hd⟩ := hrel
    have hdI : (d.length : Int) < 1024 := by omega
    rcases r with _ | ⟨p, r⟩
    · have hE := HE.out
      have HE' : Hid (u0 = f.val) := Lib.hid hE
      obtain ⟨u, v, rfl⟩ : ∃ u v, u0 = .iface u v := EC.held HE.out
      have hb1 : Below wr.heap.size wr (wr.alloc (.cells #[.pointer none] 43)) := below_alloc (Below.refl _ _) _
      have HA := Lib.hid (AsF_leaf (wr.alloc (.cells #[.pointer none] 43)) f wr.heap.size ((World.cell?_alloc_lt _ _ ⟨0, 0, none⟩ (cell_lt ((HB.out.cell (cell_lt HG.out)).trans HG.out))).trans ((HB.out.cell (cell_lt HG.out)).trans HG.out)) (by simp))
      rw [← HE'.out] at HA
      clear hE
      go_wp2_with (go_at_call 36; (with_reducible refine HA.out.mono ?_); rintro e w2 ⟨rfl, h4⟩; have HB4 := Lib.hid (below_new' h4); clear h4)
      go_ret
      have hd2 := HD.out
      rw [List.append_nil] at hd2
      subst hd2
      exact ⟨_, rfl, Kd.R_below (Kd.R_of_own HO.out (fun _ _ => trivial)) HB4.out, below_step HB.out HB4.out⟩
    · obtain ⟨b, E1, rfl, hb, h1⟩ := HE.out
      have HA := Lib.hid (AsF_hit (wr.alloc (.cells #[.pointer none] 43)) b wr.heap.size _ ((World.cell?_alloc_lt _ _ ⟨0, 0, none⟩ (cell_lt ((HB.out.cell (cell_lt HG.out)).trans HG.out))).trans ((HB.out.cell (cell_lt HG.out)).trans HG.out)) (blk_new wr (.cells #[.pointer none] 43)))
      have HX := Lib.hid hb
      have HE1 := Lib.hid h1
      clear hb h1
      have HBX := Lib.hid (blk_lt HX.out)
      go_upto_region 6 with (go_at_call 36; (with_reducible refine HA.out.mono ?_); rintro e w2 ⟨rfl, h3, h4⟩; have k0 := blk_cell h3 0; have HB4 := Lib.hid (below_new h4); have hx := (HB4.out.block b HBX.out).trans HX.out; have k1 := blk_cell hx 0; have HH0 := Lib.hid h3; have HHX := Lib.hid hx; clear h3 h4 hx)
      go_step
      iterate 18 go_step
      have O2 := Lib.hid (Kd.own_of_R (Kd.R_below (Kd.R_of_own (h1 := fun _ => rfl) (ok := fun _ => True) HO.out (fun _ _ => trivial)) HB4.out))
      have HBW := Lib.hid (below_step HB.out HB4.out)
      have HE2 := Lib.hid (HE1.out.below HB4.out)
      clear HO HB HB4 HE1 HX HE HBX HA
      have N_ := Lib.hid (blk_new w2 (.cells #[.int .i64 p] 3))
      have O_ := Lib.hid (O2.out.alloc (.cells #[.int .i64 p] 3))
      have E_ := Lib.hid (HE2.out.below (below_alloc (Below.refl _ _) (.cells #[.int .i64 p] 3)))
      have B_ := Lib.hid (below_alloc HBW.out (.cells #[.int .i64 p] 3))
      have K0 := Lib.hid (blk_alloc HH0.out (.cells #[.int .i64 p] 3))
      have KX := Lib.hid (blk_alloc HHX.out (.cells #[.int .i64 p] 3))
      clear O2 HE2 HBW k0 k1 HH0 HHX
      generalize w2.alloc _ = w3 at N_ O_ E_ B_ K0 KX ⊢
      generalize w2.heap.size = z at N_ ⊢
      generalize wr.heap.size = tt at K0 ⊢
      refine wpList_append_own w3 rfl (.tmp 21) (.tmp 26) 23 rfl w.heap.size 3 t3 (.int .i64 0) 1 8 Tryd.underlying23 t31 t32 t33 t34 rfl (by decide) (.slice A3 d.length c3) d.length (encs (Value.int .i64) d) rfl O_.out ⟨z, 0, none⟩ 1 1 [.int .i64 p] rfl rfl ?_ ?_ ?_ ?_ (below_size B_.out) ?_
      · intro j u hj
        match j, hj with
        | 0, hj => exact ((blk_cell N_.out 0).trans hj)
      · intro u hu
        simp only [List.mem_cons, List.not_mem_nil, or_false] at hu
        subst hu
        rfl
      · simp only [maxLen]; omega
      · omega
      intro v4 w4 hown hgr _
      obtain ⟨gq_, cq_, rfl⟩ := own_succ' hown
      have B4 := Lib.hid (B_.out.grown hgr (below_size B_.out) (fun k hk => (O_.out.lt k hk).1))
      have E4 := Lib.hid (EC.rowKept O_.out (by decide) hgr E_.out)
      have k0 := blk_cell (row_kept O_.out hgr K0.out (by decide)) 0
      have k2 := blk_cell (row_kept O_.out hgr KX.out (by decide)) 1
      have O4 : Hid (w4.ownsRow w.heap.size 3 1 (.slice (some ⟨gq_, 0, none⟩) (d.length + 1) cq_) (d ++ [p]).length (encs (Value.int .i64) (d ++ [p]))) := Lib.hid (by rw [List.length_append, List.length_singleton, encs, List.map_append]; exact hown)
      have hlen : (d ++ [p]).length = d.length + 1 := by rw [List.length_append, List.length_singleton]
      have hle : d.length + 1 ≤ l.length := by rw [← HD.out, List.length_append, List.length_cons]; omega
      have hle2 : d.length + 1 ≤ 1000 := by have := HL.out; omega
      have HLE := Lib.hid hlen
      clear hlen hle hown hgr K0 KX E_ B_ O_ N_
      go_wp2_with fail
      go_roundw
      case rel => exact ⟨d ++ [p], r, Lib.hid (by rw [← HD.out, List.append_assoc]; rfl), E4, O4, B4, ⟨_, _, by rw [HLE.out]⟩, by rw [HLE.out]; exact hle2⟩
      case measure => simp only [lenOf]; omega


/-- fault.Has. -/
theorem has_walk (f : Leaf) (E : Value) (l : List Int) (x : Int) (hl : l.length ≤ 1000) (w : World) (hg : w.cell? ⟨0, 0, none⟩ = some (.iface 84 (.agg #[.pointer (some ⟨1, 26, none⟩)]))) (h : EC w f E l) :
    Calls Tryd.prog 21 #[E, .int .i64 x] w fun e w' => e = .returned (.bool (decide (x ∈ l))) ∧ Below w.heap.size w w' := by
  have HP := Lib.hid (places_walk f E l hl w hg h)
  obtain ⟨u, v, rfl⟩ := h.held
  have HL := Lib.hid hl
  clear h hg hl
  go_enter Tryd.func21, Tryd.ntmps21
  go_upto_region 1 with (fail)
  go_step
  iterate 5 go_step
  (with_reducible refine HP.out.mono ?_)
  rintro e w2 ⟨v, rfl, hR, hb⟩
  obtain ⟨A, c, rfl, hc, hC⟩ := Kd.R_reads hR
  have HC := Lib.hid hC
  have HB := Lib.hid hb
  clear hR hC hb HP hc
  dsimp only
  go_wp2_with fail
  go_loopw [10, 6] (fun v10 _ wr => ∃ k : Nat, k ≤ l.length ∧ v10 = .int .i64 k ∧ Hid (¬ x ∈ l.take k) ∧ wr = w2) (fun v10 _ _ => 2000 - (intOf v10).toNat)
  case atStart => exact ⟨0, Nat.zero_le _, rfl, Lib.hid (by simp), rfl⟩
  case round =>
    obtain ⟨k, hk, rfl, HN, rfl⟩ := hrel
    by_cases h : k < l.length
    · have hlt : (k : Int) < (l.length : Int) := by omega
      have hk1000 : (k : Int) < 1000 := by have := HL.out; omega
      obtain ⟨ad, c0, rfl, hcl, hK, hcc⟩ := Kd.C_get HC.out 0 k (by omega) (by omega)
      have hK' : c0 = [.int .i64 (l.getD k 0)] := hK
      subst hK'
      have hcell : wr.cell? (ad.add k) = some (.int .i64 (l.getD k 0)) := by have := hcc 0 _ rfl; simpa [Kd.int, Kd.scalar] using this
      have hy : l[k] = l.getD k 0 := by rw [List.getD_eq_getElem?_getD, List.getElem?_eq_getElem h, Option.getD_some]
      have ht := List.take_succ_eq_append_getElem h
      rw [hy] at ht
      have hm : l.getD k 0 ∈ l := hy ▸ List.getElem_mem h
      generalize l.getD k 0 = y at hcell ht hm
      have HT := Lib.hid ht
      have HM := Lib.hid hm
      clear hcc hK hcl hy ht hm
      by_cases e : y = x
      · have eb : (y == x) = true := by simpa using e
        subst e
        go_wp2
        go_ret
        exact ⟨by rw [decide_eq_true HM.out]; rfl, HB.out⟩
      · have eb : (y == x) = false := by simpa using e
        go_wp2_with fail
        go_roundw
        case rel =>
          refine ⟨k + 1, h, by go_num, Lib.hid ?_, trivial⟩
          rw [HT.out, List.mem_append]
          rintro (h1 | h1)
          · exact HN.out h1
          · exact e (List.mem_singleton.1 h1).symm
        case measure => simp [intOf]; omega
    · have hge : ¬ (k : Int) < (l.length : Int) := by omega
      have hkk : k = l.length := by omega
      subst hkk
      go_wp2
      go_ret
      exact ⟨by have := HN.out; rw [List.take_length] at this; rw [decide_eq_false this]; rfl, HB.out⟩
def pre (l : List Int) : ByteArray := l.foldl (fun s p => s ++ (nameOf p ++ (⟨#[58, 32]⟩ : ByteArray))) (⟨#[]⟩ : ByteArray)
/-- An error's text. -/
def textOf (f : Leaf) (l : List Int) : ByteArray := pre l ++ wordOf f.num
theorem name_size (p : Int) : (nameOf p).size ≤ 8 := by
  unfold nameOf
  split
  · rename_i h
    obtain ⟨k, rfl⟩ : ∃ k : Nat, p = k := ⟨p.toNat, by omega⟩
    have hk : k < 10 := by omega
    rw [Int.toNat_natCast]
    have : ∀ k, k < 10 → (namesL.getD k (⟨#[]⟩ : ByteArray)).size ≤ 8 := by decide +kernel
    exact this k hk
  · decide
theorem word_size (c : Int) : (wordOf c).size ≤ 9 := by
  unfold wordOf
  split
  · rename_i h
    obtain ⟨k, rfl⟩ : ∃ k : Nat, c = k := ⟨c.toNat, by omega⟩
    have hk : k < 26 := by omega
    rw [Int.toNat_natCast]
    have : ∀ k, k < 26 → (wordsL.getD k (⟨#[]⟩ : ByteArray)).size ≤ 9 := by decide +kernel
    exact this k hk
  · decide
theorem pre_snoc (l : List Int) (p : Int) : pre (l ++ [p]) = pre l ++ (nameOf p ++ (⟨#[58, 32]⟩ : ByteArray)) := by simp [pre]
theorem text_none (w : World) : Calls Tryd.prog 13 #[.nilIface] w fun e w' => e = .returned (.string (⟨#[]⟩ : ByteArray)) ∧ w = w' := by
  go_enter Tryd.func13, Tryd.ntmps13
  go_wp2
  go_ret
  exact ⟨rfl, rfl⟩
/-- fault.Text. -/
theorem text_walk (f : Leaf) (E : Value) (l : List Int) (hl : l.length ≤ 1000) (w : World) (hg : w.cell? ⟨0, 0, none⟩ = some (.iface 84 (.agg #[.pointer (some ⟨1, 26, none⟩)]))) (h : EC w f E l) :
    Calls Tryd.prog 13 #[E] w fun e w' => e = .returned (.string (textOf f l)) ∧ Below w.heap.size w w' := by
  have HP := Lib.hid (places_walk f E l hl w hg h)
  have HE := Lib.hid h
  obtain ⟨T, hT⟩ : ∃ T, textOf f l = T := ⟨_, rfl⟩
  rw [hT]
  have HTX := Lib.hid hT
  clear hT
  have HG := Lib.hid hg
  obtain ⟨u, v, rfl⟩ := h.held
  have HL := Lib.hid hl
  clear h hg hl
  go_enter Tryd.func13, Tryd.ntmps13
  go_upto_region 4 with (fail)
  go_step
  iterate 5 go_step
  (with_reducible refine HP.out.mono ?_)
  rintro e w2 ⟨v, rfl, hR, hb⟩
  obtain ⟨A, c, rfl, hc, hC⟩ := Kd.R_reads hR
  have HC := Lib.hid hC
  have HB := Lib.hid hb
  clear hR hC hb HP hc
  dsimp only
  go_wp2_with fail
  go_loopw [11, 3, 5] (fun v11 v3 _ wr => ∃ (k : Nat) (s : ByteArray), k ≤ l.length ∧ v11 = .int .i64 k ∧ v3 = .string s ∧ Hid (s = pre (l.take k)) ∧ s.size ≤ 10 * k ∧ wr = w2) (fun v11 _ _ _ => 2000 - (intOf v11).toNat)
  case atStart => exact ⟨0, _, Nat.zero_le _, rfl, rfl, Lib.hid (by rfl), by decide, rfl⟩
  case round =>
    obtain ⟨k, s, hk, rfl, rfl, HS, hs, rfl⟩ := hrel
    have hk1000 : (k : Int) ≤ 1000 := by have := HL.out; omega
    by_cases h : k < l.length
    · have hlt : (k : Int) < (l.length : Int) := by omega
      obtain ⟨ad, c0, rfl, hcl, hK, hcc⟩ := Kd.C_get HC.out 0 k (by omega) (by omega)
      have hK' : c0 = [.int .i64 (l.getD k 0)] := hK
      subst hK'
      have hcell : wr.cell? (ad.add k) = some (.int .i64 (l.getD k 0)) := by have := hcc 0 _ rfl; simpa [Kd.int, Kd.scalar] using this
      have hy : l[k] = l.getD k 0 := by rw [List.getD_eq_getElem?_getD, List.getElem?_eq_getElem h, Option.getD_some]
      have ht := List.take_succ_eq_append_getElem h
      rw [hy] at ht
      generalize l.getD k 0 = y at hcell ht
      have HN := Lib.hid (name_walk y wr)
      have hz := name_size y
      have hp := pre_snoc (l.take k) y
      rw [← ht] at hp
      generalize nameOf y = nm at HN hz hp
      have HT := Lib.hid hp
      have z1 : (9223372036854775807 < nm.size + 2) = False := eq_false (by omega)
      have z2 : (9223372036854775807 < s.size + (nm.size + 2)) = False := eq_false (by omega)
      have z3 : s.size + (nm.size + 2) ≤ 10 * (k + 1) := by omega
      have Z3 := Lib.hid z3
      clear hcc hK hcl hy ht hp hz z3 hs
      go_wp2_with (go_at_call 25; (with_reducible refine HN.out.mono ?_); rintro e w3 ⟨rfl, rfl⟩)
      go_roundw
      case rel =>
        refine ⟨k + 1, _, h, by go_num, rfl, Lib.hid ?_, ?_, trivial⟩
        · rw [HT.out, ← HS.out]
        · have := Z3.out
          simp only [ByteArray.size_append]
          exact this
      case measure => simp [intOf]; omega
    · have hge : ¬ (k : Int) < (l.length : Int) := by omega
      have hkk : k = l.length := by omega
      subst hkk
      have HW := Lib.hid (fun w3 => word_walk f.num w3)
      have HCo := Lib.hid (code_walk f _ l wr ((HB.out.cell (cell_lt HG.out)).trans HG.out) (HE.out.below HB.out))
      have hw := word_size f.num
      have HX : Hid (T = s ++ wordOf f.num) := Lib.hid (by rw [← HTX.out, textOf, HS.out, List.take_length])
      generalize wordOf f.num = wd at HW hw HX
      generalize f.num = nn at HW HCo
      have z1 : (9223372036854775807 < s.size + wd.size) = False := eq_false (by omega)
      clear hs hw HS
      go_wp2_with (first
        | (go_at_call 11; (with_reducible refine HCo.out.mono ?_); rintro e w3 ⟨rfl, hb3⟩; have HB3 := Lib.hid (below_step HB.out hb3); clear hb3)
        | (go_at_call 37; (with_reducible refine (HW.out _).mono ?_); rintro e w4 ⟨rfl, hb4⟩; have HB4 := Lib.hid (below_step HB3.out hb4); clear hb4))
      go_ret
      exact ⟨by rw [HX.out]; rfl, HB4.out⟩
/-- errors.Unwrap of a fault. -/
theorem eunwrap_walk (f : Leaf) (E : Value) (p : Int) (l : List Int) (w : World) (h : EC w f E (p :: l)) :
    Calls Tryd.prog 20 #[E] w fun e w' => ∃ E', e = .returned E' ∧ EC w' f E' l ∧ w = w' := by
  obtain ⟨b, E', rfl, hb, h1⟩ := h
  have uF := ec_hasUnF
  have mU := ec_mUnwrap
  have HU := Lib.hid (unwrap_walk b p E' w hb h1.held)
  have H1 := Lib.hid h1
  obtain ⟨u, v, rfl⟩ := h1.held
  clear hb h1
  go_enter Tryd.func20, Tryd.ntmps20
  go_wp2_with (go_at_call 23; (with_reducible refine HU.out.mono ?_); rintro e w' ⟨rfl, rfl⟩)
  go_ret
  exact ⟨_, rfl, H1.out, rfl⟩
/-- errors.New. -/
theorem enew_walk (s : ByteArray) (w : World) : Calls Tryd.prog 22 #[.string s] w fun e w' => e = .returned (Leaf.text w.heap.size).val ∧ Below w.heap.size w w' := by
  go_enter Tryd.func22, Tryd.ntmps22
  go_wp2
  go_ret
  exact ⟨rfl, below_alloc (Below.refl _ _) _⟩

end Go.Proofs.YtlnljnldpnhjiaaDoor.Hand
