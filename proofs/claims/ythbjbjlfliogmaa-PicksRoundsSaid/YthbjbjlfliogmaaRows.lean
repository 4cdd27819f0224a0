/-
  No cell of these rows narrows 'for every input' (looked for: loops, veiled, ifaces, maps, wideKeys, modest, calm, conditions, laid).
  DERIVED. THE GIVEN ROWS OF THIS SEAT. 8 by the template 'for every input the law returns true; each argument reads behind the call as it read before'; 0 by the template 'total and deterministic' (their statements: YthbjbjlfliogmaaTotals.lean).
  GIVEN WITH THE SEED: the statements are not yours to turn. If you find one false, say at which input.
  Laid BY PROGRAM, IN A SANDBOX (cutbox-rows.mjs): the forced cells as the released guide's own fill.sh prints them over the translation cd1a0bd2850a0705… (all of the seat's roots in one cut). By AI agents, Wed Nov 11 2026. No macro, syntax, notation, axiom, sorry.
-/
import Derived.Test.YthbjbjlfliogmaaChecked
import GoSem.Claim
import GoSem.ClaimJoined
import GoSem.ClaimMapViews
import Derived.JoinedTies
import Derived.KernelRfl
namespace Go.Proofs.Ythbjbjlfliogmaa
/- THE CELL 'sum', in the pinned program and in every row, IS THE sha256 OF THE DUMP (.gsa) THAT YthbjbjlfliogmaaProg.lean LOADS. Nothing in Lean hashes anything: it is a label: what it is worth is what the hold of that sum in a sandbox is worth. -/
noncomputable def Try.pinned : Pinned := { name := "ythbjbjlfliogmaa", sum := "cd1a0bd2850a07054b30fb695756c08c2a02ea2c49513775b7f9a9c0dce85fa7", checked := Try.checked }
namespace Rows
def none {H : Type} : Left H := { results := [], args := [] }

/-- 'muleteerlaw01.DigitPuts': WHATEVER THE INPUT: true; the input reads as it did. -/
def digitPutsSpec : ChangeSpec := { name := "digitPuts", fn := fun _ => fun
  | [d1, d2, d3] => { results := [.lit (.bool true)], args := [d1, d2, d3] }
  | _ => none }
def digitPutsRow : OpenClaim := { program := "ythbjbjlfliogmaa", sum := "cd1a0bd2850a07054b30fb695756c08c2a02ea2c49513775b7f9a9c0dce85fa7", func := "muleteer/muleteerlaw01.DigitPuts", spec := "digitPuts", unfollowed := true, recurses := true, apart := false }
def DigitPutsSaid : Prop := digitPutsRow.holds Try.pinned (OpenSpec.ofChange digitPutsSpec)

/-- ITS FALSE NEIGHBOUR: 'it returns false'. Refute it at one input. -/
def digitPutsWrong : ChangeSpec := { name := "digitPuts", fn := fun _ => fun
  | [d1, d2, d3] => { results := [.lit (.bool false)], args := [d1, d2, d3] }
  | _ => none }
def DigitPutsWrongFalsely : Prop := digitPutsRow.holds Try.pinned (OpenSpec.ofChange digitPutsWrong)

/-- 'muleteerlaw01.DigitRises': WHATEVER THE INPUT: true; the input reads as it did. -/
def digitRisesSpec : ChangeSpec := { name := "digitRises", fn := fun _ => fun
  | [d1, d2] => { results := [.lit (.bool true)], args := [d1, d2] }
  | _ => none }
def digitRisesRow : OpenClaim := { program := "ythbjbjlfliogmaa", sum := "cd1a0bd2850a07054b30fb695756c08c2a02ea2c49513775b7f9a9c0dce85fa7", func := "muleteer/muleteerlaw01.DigitRises", spec := "digitRises", unfollowed := true, recurses := true, apart := false }
def DigitRisesSaid : Prop := digitRisesRow.holds Try.pinned (OpenSpec.ofChange digitRisesSpec)

/-- ITS FALSE NEIGHBOUR: 'it returns false'. Refute it at one input. -/
def digitRisesWrong : ChangeSpec := { name := "digitRises", fn := fun _ => fun
  | [d1, d2] => { results := [.lit (.bool false)], args := [d1, d2] }
  | _ => none }
def DigitRisesWrongFalsely : Prop := digitRisesRow.holds Try.pinned (OpenSpec.ofChange digitRisesWrong)

/-- 'muleteerlaw07.ConfPlain': WHATEVER THE INPUT: true; the input reads as it did. -/
def confPlainSpec : ChangeSpec := { name := "confPlain", fn := fun _ => fun
  | [d1, d2, d3] => { results := [.lit (.bool true)], args := [d1, d2, d3] }
  | _ => none }
def confPlainRow : OpenClaim := { program := "ythbjbjlfliogmaa", sum := "cd1a0bd2850a07054b30fb695756c08c2a02ea2c49513775b7f9a9c0dce85fa7", func := "muleteer/muleteerlaw07.ConfPlain", spec := "confPlain", unfollowed := true, recurses := true, apart := false }
def ConfPlainSaid : Prop := confPlainRow.holds Try.pinned (OpenSpec.ofChange confPlainSpec)

/-- ITS FALSE NEIGHBOUR: 'it returns false'. Refute it at one input. -/
def confPlainWrong : ChangeSpec := { name := "confPlain", fn := fun _ => fun
  | [d1, d2, d3] => { results := [.lit (.bool false)], args := [d1, d2, d3] }
  | _ => none }
def ConfPlainWrongFalsely : Prop := confPlainRow.holds Try.pinned (OpenSpec.ofChange confPlainWrong)

/-- 'muleteerlaw19.PicksOrders': WHATEVER THE INPUT: true; the input reads as it did. -/
def picksOrdersSpec : ChangeSpec := { name := "picksOrders", fn := fun _ => fun
  | [d1, d2, d3] => { results := [.lit (.bool true)], args := [d1, d2, d3] }
  | _ => none }
def picksOrdersRow : OpenClaim := { program := "ythbjbjlfliogmaa", sum := "cd1a0bd2850a07054b30fb695756c08c2a02ea2c49513775b7f9a9c0dce85fa7", func := "muleteer/muleteerlaw19.PicksOrders", spec := "picksOrders", recurses := true, apart := false }
def PicksOrdersSaid : Prop := picksOrdersRow.holds Try.pinned (OpenSpec.ofChange picksOrdersSpec)

/-- ITS FALSE NEIGHBOUR: 'it returns false'. Refute it at one input. -/
def picksOrdersWrong : ChangeSpec := { name := "picksOrders", fn := fun _ => fun
  | [d1, d2, d3] => { results := [.lit (.bool false)], args := [d1, d2, d3] }
  | _ => none }
def PicksOrdersWrongFalsely : Prop := picksOrdersRow.holds Try.pinned (OpenSpec.ofChange picksOrdersWrong)

/-- 'muleteerlaw19.PicksFair': WHATEVER THE INPUT: true; the input reads as it did. -/
def picksFairSpec : ChangeSpec := { name := "picksFair", fn := fun _ => fun
  | [d1, d2, d3] => { results := [.lit (.bool true)], args := [d1, d2, d3] }
  | _ => none }
def picksFairRow : OpenClaim := { program := "ythbjbjlfliogmaa", sum := "cd1a0bd2850a07054b30fb695756c08c2a02ea2c49513775b7f9a9c0dce85fa7", func := "muleteer/muleteerlaw19.PicksFair", spec := "picksFair", unfollowed := true, recurses := true, apart := false }
def PicksFairSaid : Prop := picksFairRow.holds Try.pinned (OpenSpec.ofChange picksFairSpec)

/-- ITS FALSE NEIGHBOUR: 'it returns false'. Refute it at one input. -/
def picksFairWrong : ChangeSpec := { name := "picksFair", fn := fun _ => fun
  | [d1, d2, d3] => { results := [.lit (.bool false)], args := [d1, d2, d3] }
  | _ => none }
def PicksFairWrongFalsely : Prop := picksFairRow.holds Try.pinned (OpenSpec.ofChange picksFairWrong)

/-- 'muleteerlaw19.PicksRounds': WHATEVER THE INPUT: true; the input reads as it did. -/
def picksRoundsSpec : ChangeSpec := { name := "picksRounds", fn := fun _ => fun
  | [d1, d2] => { results := [.lit (.bool true)], args := [d1, d2] }
  | _ => none }
def picksRoundsRow : OpenClaim := { program := "ythbjbjlfliogmaa", sum := "cd1a0bd2850a07054b30fb695756c08c2a02ea2c49513775b7f9a9c0dce85fa7", func := "muleteer/muleteerlaw19.PicksRounds", spec := "picksRounds", unfollowed := true, recurses := true, apart := false }
def PicksRoundsSaid : Prop := picksRoundsRow.holds Try.pinned (OpenSpec.ofChange picksRoundsSpec)

/-- ITS FALSE NEIGHBOUR: 'it returns false'. Refute it at one input. -/
def picksRoundsWrong : ChangeSpec := { name := "picksRounds", fn := fun _ => fun
  | [d1, d2] => { results := [.lit (.bool false)], args := [d1, d2] }
  | _ => none }
def PicksRoundsWrongFalsely : Prop := picksRoundsRow.holds Try.pinned (OpenSpec.ofChange picksRoundsWrong)

/-- 'muleteerlaw27.BatchPlays': WHATEVER THE INPUT: true; the input reads as it did. -/
def batchPlaysSpec : ChangeSpec := { name := "batchPlays", fn := fun _ => fun
  | [d1, d2, d3] => { results := [.lit (.bool true)], args := [d1, d2, d3] }
  | _ => none }
def batchPlaysRow : OpenClaim := { program := "ythbjbjlfliogmaa", sum := "cd1a0bd2850a07054b30fb695756c08c2a02ea2c49513775b7f9a9c0dce85fa7", func := "muleteer/muleteerlaw27.BatchPlays", spec := "batchPlays", apart := false }
def BatchPlaysSaid : Prop := batchPlaysRow.holds Try.pinned (OpenSpec.ofChange batchPlaysSpec)

/-- ITS FALSE NEIGHBOUR: 'it returns false'. Refute it at one input. -/
def batchPlaysWrong : ChangeSpec := { name := "batchPlays", fn := fun _ => fun
  | [d1, d2, d3] => { results := [.lit (.bool false)], args := [d1, d2, d3] }
  | _ => none }
def BatchPlaysWrongFalsely : Prop := batchPlaysRow.holds Try.pinned (OpenSpec.ofChange batchPlaysWrong)

/-- 'muleteerlaw27.BatchParts': WHATEVER THE INPUT: true; the input reads as it did. -/
def batchPartsSpec : ChangeSpec := { name := "batchParts", fn := fun _ => fun
  | [d1, d2] => { results := [.lit (.bool true)], args := [d1, d2] }
  | _ => none }
def batchPartsRow : OpenClaim := { program := "ythbjbjlfliogmaa", sum := "cd1a0bd2850a07054b30fb695756c08c2a02ea2c49513775b7f9a9c0dce85fa7", func := "muleteer/muleteerlaw27.BatchParts", spec := "batchParts", unfollowed := true, recurses := true, apart := false }
def BatchPartsSaid : Prop := batchPartsRow.holds Try.pinned (OpenSpec.ofChange batchPartsSpec)

/-- ITS FALSE NEIGHBOUR: 'it returns false'. Refute it at one input. -/
def batchPartsWrong : ChangeSpec := { name := "batchParts", fn := fun _ => fun
  | [d1, d2] => { results := [.lit (.bool false)], args := [d1, d2] }
  | _ => none }
def BatchPartsWrongFalsely : Prop := batchPartsRow.holds Try.pinned (OpenSpec.ofChange batchPartsWrong)

/- THE SECOND FORM. 'bulk': how many values and letters a reading holds, each counted each time it is reached (what is shared counts as often as it is met; a slice's spare places count too). A statement '..UptoSaid' is the law's where the arguments, and the package variables that the reading takes, are together of bulk at most 1048576: NARROWER than '..Said'. Prove '..Said' where nothing that the law and all that it calls make is longer than what came in: it says more and counts as full. Else prove '..UptoSaid'. A law counts once. -/
mutual
def uptoBulk {H : Type} : DataW H → Nat
  | .lit (.string bytes) => bytes.length + 1
  | .lit _ => 1
  | .nil => 1
  | .ptr d => uptoBulk d + 1
  | .slice elems spare => uptoBulkAll elems + uptoBulkAll spare + 1
  | .agg parts => uptoBulkAll parts + 1
  | .iface _ d => uptoBulk d + 1
  | .map entries => uptoBulkEntries entries + 1
  | .held _ => 1
def uptoBulkAll {H : Type} : List (DataW H) → Nat
  | [] => 0
  | d :: r => uptoBulk d + uptoBulkAll r
def uptoBulkEntries {H : Type} : List (Lit × DataW H) → Nat
  | [] => 0
  | x :: r => uptoBulkEntry x + uptoBulkEntries r
def uptoBulkEntry {H : Type} : Lit × DataW H → Nat
  | (.string bytes, d) => bytes.length + uptoBulk d + 1
  | (_, d) => uptoBulk d + 1
 end
def uptoSmall : (H : Type) → List (DataW H) → Bool := fun _ ds => decide (uptoBulkAll ds ≤ 1048576)
def OpenSpec.upto (s : _root_.Go.ChangeSpec) : _root_.Go.OpenSpec := { _root_.Go.OpenSpec.ofChange s with cond := some uptoSmall }

/-- 'muleteerlaw01.DigitPuts', WHERE WHAT IT READS IS OF BULK AT MOST 1048576: true; the input reads as it did. -/
def digitPutsUptoRow : OpenClaim := { program := "ythbjbjlfliogmaa", sum := "cd1a0bd2850a07054b30fb695756c08c2a02ea2c49513775b7f9a9c0dce85fa7", func := "muleteer/muleteerlaw01.DigitPuts", spec := "digitPuts", unfollowed := true, recurses := true, apart := false, narrowed := true }
def DigitPutsUptoSaid : Prop := digitPutsUptoRow.holds Try.pinned (OpenSpec.upto digitPutsSpec)

/-- 'muleteerlaw01.DigitRises', WHERE WHAT IT READS IS OF BULK AT MOST 1048576: true; the input reads as it did. -/
def digitRisesUptoRow : OpenClaim := { program := "ythbjbjlfliogmaa", sum := "cd1a0bd2850a07054b30fb695756c08c2a02ea2c49513775b7f9a9c0dce85fa7", func := "muleteer/muleteerlaw01.DigitRises", spec := "digitRises", unfollowed := true, recurses := true, apart := false, narrowed := true }
def DigitRisesUptoSaid : Prop := digitRisesUptoRow.holds Try.pinned (OpenSpec.upto digitRisesSpec)

/-- 'muleteerlaw07.ConfPlain', WHERE WHAT IT READS IS OF BULK AT MOST 1048576: true; the input reads as it did. -/
def confPlainUptoRow : OpenClaim := { program := "ythbjbjlfliogmaa", sum := "cd1a0bd2850a07054b30fb695756c08c2a02ea2c49513775b7f9a9c0dce85fa7", func := "muleteer/muleteerlaw07.ConfPlain", spec := "confPlain", unfollowed := true, recurses := true, apart := false, narrowed := true }
def ConfPlainUptoSaid : Prop := confPlainUptoRow.holds Try.pinned (OpenSpec.upto confPlainSpec)

/-- 'muleteerlaw19.PicksOrders', WHERE WHAT IT READS IS OF BULK AT MOST 1048576: true; the input reads as it did. -/
def picksOrdersUptoRow : OpenClaim := { program := "ythbjbjlfliogmaa", sum := "cd1a0bd2850a07054b30fb695756c08c2a02ea2c49513775b7f9a9c0dce85fa7", func := "muleteer/muleteerlaw19.PicksOrders", spec := "picksOrders", recurses := true, apart := false, narrowed := true }
def PicksOrdersUptoSaid : Prop := picksOrdersUptoRow.holds Try.pinned (OpenSpec.upto picksOrdersSpec)

/-- 'muleteerlaw19.PicksFair', WHERE WHAT IT READS IS OF BULK AT MOST 1048576: true; the input reads as it did. -/
def picksFairUptoRow : OpenClaim := { program := "ythbjbjlfliogmaa", sum := "cd1a0bd2850a07054b30fb695756c08c2a02ea2c49513775b7f9a9c0dce85fa7", func := "muleteer/muleteerlaw19.PicksFair", spec := "picksFair", unfollowed := true, recurses := true, apart := false, narrowed := true }
def PicksFairUptoSaid : Prop := picksFairUptoRow.holds Try.pinned (OpenSpec.upto picksFairSpec)

/-- 'muleteerlaw19.PicksRounds', WHERE WHAT IT READS IS OF BULK AT MOST 1048576: true; the input reads as it did. -/
def picksRoundsUptoRow : OpenClaim := { program := "ythbjbjlfliogmaa", sum := "cd1a0bd2850a07054b30fb695756c08c2a02ea2c49513775b7f9a9c0dce85fa7", func := "muleteer/muleteerlaw19.PicksRounds", spec := "picksRounds", unfollowed := true, recurses := true, apart := false, narrowed := true }
def PicksRoundsUptoSaid : Prop := picksRoundsUptoRow.holds Try.pinned (OpenSpec.upto picksRoundsSpec)

/-- 'muleteerlaw27.BatchPlays', WHERE WHAT IT READS IS OF BULK AT MOST 1048576: true; the input reads as it did. -/
def batchPlaysUptoRow : OpenClaim := { program := "ythbjbjlfliogmaa", sum := "cd1a0bd2850a07054b30fb695756c08c2a02ea2c49513775b7f9a9c0dce85fa7", func := "muleteer/muleteerlaw27.BatchPlays", spec := "batchPlays", apart := false, narrowed := true }
def BatchPlaysUptoSaid : Prop := batchPlaysUptoRow.holds Try.pinned (OpenSpec.upto batchPlaysSpec)

/-- 'muleteerlaw27.BatchParts', WHERE WHAT IT READS IS OF BULK AT MOST 1048576: true; the input reads as it did. -/
def batchPartsUptoRow : OpenClaim := { program := "ythbjbjlfliogmaa", sum := "cd1a0bd2850a07054b30fb695756c08c2a02ea2c49513775b7f9a9c0dce85fa7", func := "muleteer/muleteerlaw27.BatchParts", spec := "batchParts", unfollowed := true, recurses := true, apart := false, narrowed := true }
def BatchPartsUptoSaid : Prop := batchPartsUptoRow.holds Try.pinned (OpenSpec.upto batchPartsSpec)

end Rows
end Go.Proofs.Ythbjbjlfliogmaa
