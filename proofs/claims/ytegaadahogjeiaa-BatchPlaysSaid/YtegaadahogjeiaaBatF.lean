/- Both batches in one world; All; the page's example. -/
import Derived.Test.YtegaadahogjeiaaBatD
import Derived.Test.YtegaadahogjeiaaBatE
import Derived.Test.YtegaadahogjeiaaHandCloneMsg
namespace Go.Proofs.Ytegaadahogjeiaa.Hand
open Go.RowKit Go.Proofs.Ytegaadahogjeiaa.PBatchPlays Go.Proofs.YtegaadahogjeiaaW.PrintWords Go.Proofs.YtegaadahogjeiaaW.PrintLast Go.Proofs.YtegaadahogjeiaaW.PrintMore
set_option linter.unusedVariables false
set_option linter.unusedSimpArgs false
/-- Is a message added? -/
def adds (size : Int) (l : List S37) (m : S37) : Bool := rightM m && (!(hasM l m) && decide (¬ size ≤ (l.length : Int)))
def nextL (size : Int) (l : List S37) (m : S37) : List S37 := if adds size l m = true then l ++ [m] else l
def nextF (size first now : Int) (l : List S37) (m : S37) : Int := if adds size l m = true then (if (l.length : Int) = 0 then now else first) else first
def codeF (size : Int) (l : List S37) (m : S37) : Int := if adds size l m = true then 0 else if rightM m = false then 1 else if hasM l m = true then 7 else 6
theorem adds_yes {size : Int} {l : List S37} {m : S37} (h : adds size l m = true) : rightM m = true ∧ hasM l m = false ∧ ¬ size ≤ (l.length : Int) := by
  simp only [adds, Bool.and_eq_true, Bool.not_eq_true', decide_eq_true_eq] at h
  exact ⟨h.1, h.2.1, h.2.2⟩
theorem adds_no {size : Int} {l : List S37} {m : S37} (h : ¬ adds size l m = true) : rightM m = false ∨ hasM l m = true ∨ size ≤ (l.length : Int) := by
  cases h1 : rightM m
  · exact .inl rfl
  · cases h2 : hasM l m
    · refine .inr (.inr ?_)
      rcases Int.lt_or_le (l.length : Int) size with h3 | h3
      · exact absurd (by simp only [adds, h1, h2, Bool.not_false, Bool.true_and]; exact decide_eq_true (by omega)) h
      · exact h3
    · exact .inr (.inl rfl)
/-- What an Add leaves. -/
def AddPost (BT : Nat) (wv : Value) (b base : Nat) (size first now : Int) (v : Value) (l : List S37) (m : S37) (w : World) (w' : World) : Prop :=
  ∃ v', w'.heap[b]? = some (.cells #[.int .i64 size, wv, .int .u64 (nextF size first now l m), v'] BT (0, 0)) ∧ Kd.R k37 37 w' base (fun _ => True) v' (nextL size l m) ∧ (v'.ownBlock = v.ownBlock ∨ ∃ g, v'.ownBlock = some g ∧ w.heap.size ≤ g) ∧ Below base w w' ∧ KeepBut w w' b v.ownBlock
theorem badd_any (b base : Nat) (size wait first now : Int) (v : Value) (l : List S37) (m : S37) (hl : l.length ≤ 100) (w : World) (hbase : base ≤ b) (hr : Kd.R k37 37 w base (fun _ => True) v l) (hb : w.heap[b]? = some (.cells #[.int .i64 size, .int .u64 wait, .int .u64 first, v] 51 (0, 0))) :
    Calls Try.prog 9 #[.pointer (some ⟨b, 0, none⟩), .agg #[.int .i64 m.f0, .int .i64 m.f1.f0, .int .i64 m.f1.f1, .int .u64 m.f1.f2, .int .u64 m.f1.f3, .string m.f1.f4, .string m.f2], .int .u64 now] w fun e w' => e = .returned (.int .i64 (codeF size l m)) ∧ AddPost 51 (.int .u64 wait) b base size first now v l m w w' := by
  by_cases h : adds size l m = true
  · obtain ⟨h1, h2, h3⟩ := adds_yes h
    refine (badd_yes b base size wait first now v l m hl w hbase hr hb h1 h2 h3).mono ?_
    rintro e w' ⟨rfl, h⟩
    rw [codeF, AddPost, nextF, nextL, if_pos ‹adds size l m = true›, if_pos ‹adds size l m = true›, if_pos ‹adds size l m = true›]
    exact ⟨rfl, h⟩
  · have hno := adds_no h
    obtain ⟨A, c, rfl, hc, hC⟩ := Kd.R_reads hr
    refine (badd_no b size wait first now A c l m hl hc w hC hb hno).mono ?_
    rintro e w' ⟨rfl, hB⟩
    rw [codeF, AddPost, nextF, nextL, if_neg h, if_neg h, if_neg h]
    exact ⟨rfl, _, (hB.block b (blk_lt hb)).trans hb, Kd.R_below hr hB, .inl rfl, below_weakb hB (Nat.le_of_lt (Nat.lt_of_le_of_lt hbase (blk_lt hb))), KeepBut.of_below hB b _⟩
theorem radd_any (b base : Nat) (size wait first now : Int) (v : Value) (l : List S37) (m : S37) (hl : l.length ≤ 100) (w : World) (hbase : base ≤ b) (hr : Kd.R k37 37 w base (fun _ => True) v l) (hb : w.heap[b]? = some (.cells #[.int .i64 size, .int .i64 wait, .int .u64 first, v] 32 (0, 0))) :
    Calls Try.prog 10 #[.pointer (some ⟨b, 0, none⟩), .agg #[.int .i64 m.f0, .int .i64 m.f1.f0, .int .i64 m.f1.f1, .int .u64 m.f1.f2, .int .u64 m.f1.f3, .string m.f1.f4, .string m.f2], .int .u64 now] w fun e w' => e = .returned (.int .i64 (codeF size l m)) ∧ AddPost 32 (.int .i64 wait) b base size first now v l m w w' := by
  by_cases h : adds size l m = true
  · obtain ⟨h1, h2, h3⟩ := adds_yes h
    refine (radd_yes b base size wait first now v l m hl w hbase hr hb h1 h2 h3).mono ?_
    rintro e w' ⟨rfl, h⟩
    rw [codeF, AddPost, nextF, nextL, if_pos ‹adds size l m = true›, if_pos ‹adds size l m = true›, if_pos ‹adds size l m = true›]
    exact ⟨rfl, h⟩
  · have hno := adds_no h
    obtain ⟨A, c, rfl, hc, hC⟩ := Kd.R_reads hr
    refine (radd_no b size wait first now A c l m hl hc w hC hb hno).mono ?_
    rintro e w' ⟨rfl, hB⟩
    rw [codeF, AddPost, nextF, nextL, if_neg h, if_neg h, if_neg h]
    exact ⟨rfl, _, (hB.block b (blk_lt hb)).trans hb, Kd.R_below hr hB, .inl rfl, below_weakb hB (Nat.le_of_lt (Nat.lt_of_le_of_lt hbase (blk_lt hb))), KeepBut.of_below hB b _⟩
theorem all_none (w : World) : Calls Try.prog 16 #[.pointer none] w fun e w' => e = .returned (.slice none 0 0) ∧ w = w' := by
  go_enter Try.func16, Try.ntmps16
  go_wp2
  go_ret
  exact ⟨rfl, rfl⟩
theorem all_walk (b : Nat) (size wait first : Int) (A : Option Addr) (c : Nat) (l : List S37) (hl : l.length ≤ 100) (w : World) (hr : Kd.C k37 w A l.length l) (hb : w.heap[b]? = some (.cells #[.int .i64 size, .int .u64 wait, .int .u64 first, .slice A l.length c] 51 (0, 0))) :
    Calls Try.prog 16 #[.pointer (some ⟨b, 0, none⟩)] w fun e w' => (∃ v, e = .returned v ∧ Kd.R k37 37 w' w.heap.size (fun _ => True) v l) ∧ Below w.heap.size w w' := by
  have k3 : w.cell? ⟨b, 3, none⟩ = some (.slice A l.length c) := blk_cell hb 3
  have HC := Lib.hid (cloneMsg_walk k37 (.agg #[.int .i64 0, .int .i64 0, .int .i64 0, .int .u64 0, .int .u64 0, .string ⟨#[]⟩, .string ⟨#[]⟩]) 7 72 rfl info_msg rfl (by decide) (by decide) (fun w base ok x cs h => by rw [k37_open h]; exact k37_mkM w base ok x) A c l w hr (by omega))
  clear hr hb
  go_enter Try.func16, Try.ntmps16
  go_wp2_with (go_at_call 23; (with_reducible refine HC.out.mono ?_); rintro e w1 ⟨v, rfl, hR, hb1⟩; have HR := Lib.hid hR; have HB := Lib.hid hb1; obtain ⟨A1, c1, rfl⟩ := Kd.R_slice hR; clear hR hb1)
  go_ret
  exact ⟨⟨_, rfl, HR.out⟩, HB.out⟩
/-- Both batches. -/
structure BB (w0 w : World) (b q : Nat) (size wait fb fq : Int) (vb vq : Value) (lb lq : List S37) : Prop where
  hb : w.heap[b]? = some (.cells #[.int .i64 size, .int .u64 wait, .int .u64 fb, vb] 51 (0, 0))
  hq : w.heap[q]? = some (.cells #[.int .i64 size, .int .i64 wait, .int .u64 fq, vq] 32 (0, 0))
  rb : Kd.R k37 37 w w0.heap.size (fun _ => True) vb lb
  rq : Kd.R k37 37 w w0.heap.size (fun _ => True) vq lq
  ne : vb.ownBlock = none ∨ vb.ownBlock ≠ vq.ownBlock
  bge : w0.heap.size ≤ b
  qge : w0.heap.size ≤ q
  bel : Below w0.heap.size w0 w
section
variable {w0 w w' : World} {b q : Nat} {size wait fb fq now : Int} {vb vq : Value} {lb lq : List S37} {m : S37}
theorem BB.step (h : BB w0 w b q size wait fb fq vb vq lb lq) (hb : Below w.heap.size w w') : BB w0 w' b q size wait fb fq vb vq lb lq :=
  ⟨(hb.block b (blk_lt h.hb)).trans h.hb, (hb.block q (blk_lt h.hq)).trans h.hq, Kd.R_below h.rb hb, Kd.R_below h.rq hb, h.ne, h.bge, h.qge, below_step h.bel hb⟩
theorem BB.bq (h : BB w0 w b q size wait fb fq vb vq lb lq) : b ≠ q := fun e => by
  have h1 := h.hb
  rw [e, h.hq] at h1
  injection h1 with h1
  injection h1 with _ h2 _
  exact absurd h2 (by decide)
theorem BB.badd (h : BB w0 w b q size wait fb fq vb vq lb lq) (ha : AddPost 51 (.int .u64 wait) b w0.heap.size size fb now vb lb m w w') : ∃ vb', BB w0 w' b q size wait (nextF size fb now lb m) fq vb' vq (nextL size lb m) lq := by
  obtain ⟨v', h1, h2, h3, h4, h5⟩ := ha
  have hqb : some q ≠ vb.ownBlock := Kd.R_ne h.rb h.hq (by decide)
  refine ⟨v', h1, (h5.2 q (blk_lt h.hq) (Ne.symm h.bq) hqb).trans h.hq, h2, ?_, ?_, h.bge, h.qge, below_baseb h.bel h4⟩
  · have hlt := Kd.R_lt h.rq
    have hne : ∀ k, vq.ownBlock = some k → w'.heap[k]? = w.heap[k]? := fun k hk => h5.2 k (hlt k hk) (fun e => by
        subst e
        exact Kd.R_ne h.rq h.hb (by decide) hk.symm) (fun e => by
        rcases h.ne with h6 | h6
        · rw [h6] at e; cases e
        · exact h6 (e.symm.trans hk.symm))
    exact Kd.R_mono (Kd.R_move (ok := fun k => vq.ownBlock = some k) ⟨fun k hk => hk, h.rq.2⟩ hne) (fun _ _ => trivial)
  · rcases h3 with h6 | ⟨g, h6, h7⟩
    · rcases h.ne with h8 | h8
      · exact .inl (h6.trans h8)
      · exact .inr (fun e => h8 (h6.symm.trans e))
    · refine .inr (fun e => ?_)
      have := Kd.R_lt h.rq g (e.symm.trans h6)
      omega
theorem BB.radd (h : BB w0 w b q size wait fb fq vb vq lb lq) (ha : AddPost 32 (.int .i64 wait) q w0.heap.size size fq now vq lq m w w') : ∃ vq', BB w0 w' b q size wait fb (nextF size fq now lq m) vb vq' lb (nextL size lq m) := by
  obtain ⟨v', h1, h2, h3, h4, h5⟩ := ha
  have hqb : some b ≠ vq.ownBlock := Kd.R_ne h.rq h.hb (by decide)
  refine ⟨v', (h5.2 b (blk_lt h.hb) h.bq hqb).trans h.hb, h1, ?_, h2, ?_, h.bge, h.qge, below_baseb h.bel h4⟩
  · have hlt := Kd.R_lt h.rb
    have hne : ∀ k, vb.ownBlock = some k → w'.heap[k]? = w.heap[k]? := fun k hk => h5.2 k (hlt k hk) (fun e => by
        subst e
        exact Kd.R_ne h.rb h.hq (by decide) hk.symm) (fun e => by
        rcases h.ne with h6 | h6
        · rw [h6] at hk; cases hk
        · exact h6 (hk.trans e))
    exact Kd.R_mono (Kd.R_move (ok := fun k => vb.ownBlock = some k) ⟨fun k hk => hk, h.rb.2⟩ hne) (fun _ _ => trivial)
  · rcases h3 with h6 | ⟨g, h6, h7⟩
    · rcases h.ne with h8 | h8
      · exact .inl h8
      · exact .inr (fun e => h8 (e.trans h6))
    · refine .inr (fun e => ?_)
      have := Kd.R_lt h.rb g (e.trans h6)
      omega
theorem BB.clear (h : BB w0 w b q size wait fb fq vb vq lb lq) : BB w0 ((w.setCell ⟨b, 3, none⟩ (.slice none 0 0)).setCell ⟨q, 3, none⟩ (.slice none 0 0)) b q size wait fb fq (.slice none 0 0) (.slice none 0 0) [] [] :=
  ⟨blk_far (blk_put h.hb 3 _ rfl) (p := ⟨q, 3, none⟩) h.bq _, blk_put (blk_far h.hq (p := ⟨b, 3, none⟩) (Ne.symm h.bq) _) 3 _ rfl, Kd.R_nil _ _ _ _ _, Kd.R_nil _ _ _ _ _, .inl rfl, h.bge, h.qge, (h.bel.setCell (p := ⟨b, 3, none⟩) h.bge _).setCell (p := ⟨q, 3, none⟩) h.qge _⟩
end
end Go.Proofs.Ytegaadahogjeiaa.Hand
