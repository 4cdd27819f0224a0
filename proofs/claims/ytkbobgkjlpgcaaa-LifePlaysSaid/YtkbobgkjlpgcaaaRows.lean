/-
  No cell of these rows narrows 'for every input' (looked for: loops, veiled, ifaces, maps, wideKeys, modest, calm, conditions, laid).
  DERIVED. THE GIVEN ROWS OF THIS SEAT. 12 by the template 'for every input the law returns true; each argument reads behind the call as it read before'; 0 by the template 'total and deterministic' (their statements: YtkbobgkjlpgcaaaTotals.lean).
  GIVEN WITH THE SEED: the statements are not yours to turn. If you find one false, say at which input.
  Laid BY PROGRAM, IN A SANDBOX (cutbox-rows.mjs): the forced cells as the released guide's own fill.sh prints them over the translation 193aa45d03439621… (all of the seat's roots in one cut). By AI agents, Wed Nov 11 2026. No macro, syntax, notation, axiom, sorry.
-/
import Derived.Test.YtkbobgkjlpgcaaaChecked
import GoSem.Claim
import GoSem.ClaimJoined
import GoSem.ClaimMapViews
import Derived.JoinedTies
import Derived.KernelRfl
namespace Go.Proofs.Ytkbobgkjlpgcaaa
/- THE CELL 'sum', in the pinned program and in every row, IS THE sha256 OF THE DUMP (.gsa) THAT YtkbobgkjlpgcaaaProg.lean LOADS. Nothing in Lean hashes anything: it is a label: what it is worth is what the hold of that sum in a sandbox is worth. -/
noncomputable def Try.pinned : Pinned := { name := "ytkbobgkjlpgcaaa", sum := "193aa45d03439621a8021ea9c949bf5d15fa3f5149b63e5cee953791c01b763b", checked := Try.checked }
namespace Rows
def none {H : Type} : Left H := { results := [], args := [] }

/-- 'muleteerlaw20.FnvSums': WHATEVER THE INPUT: true; the input reads as it did. -/
def fnvSumsSpec : ChangeSpec := { name := "fnvSums", fn := fun _ => fun
  | [d1, d2, d3] => { results := [.lit (.bool true)], args := [d1, d2, d3] }
  | _ => none }
def fnvSumsRow : OpenClaim := { program := "ytkbobgkjlpgcaaa", sum := "193aa45d03439621a8021ea9c949bf5d15fa3f5149b63e5cee953791c01b763b", func := "muleteer/muleteerlaw20.FnvSums", spec := "fnvSums", apart := false }
def FnvSumsSaid : Prop := fnvSumsRow.holds Try.pinned (OpenSpec.ofChange fnvSumsSpec)

/-- ITS FALSE NEIGHBOUR: 'it returns false'. Refute it at one input. -/
def fnvSumsWrong : ChangeSpec := { name := "fnvSums", fn := fun _ => fun
  | [d1, d2, d3] => { results := [.lit (.bool false)], args := [d1, d2, d3] }
  | _ => none }
def FnvSumsWrongFalsely : Prop := fnvSumsRow.holds Try.pinned (OpenSpec.ofChange fnvSumsWrong)

/-- 'muleteerlaw20.FnvShards': WHATEVER THE INPUT: true; the input reads as it did. -/
def fnvShardsSpec : ChangeSpec := { name := "fnvShards", fn := fun _ => fun
  | [d1, d2] => { results := [.lit (.bool true)], args := [d1, d2] }
  | _ => none }
def fnvShardsRow : OpenClaim := { program := "ytkbobgkjlpgcaaa", sum := "193aa45d03439621a8021ea9c949bf5d15fa3f5149b63e5cee953791c01b763b", func := "muleteer/muleteerlaw20.FnvShards", spec := "fnvShards", apart := false }
def FnvShardsSaid : Prop := fnvShardsRow.holds Try.pinned (OpenSpec.ofChange fnvShardsSpec)

/-- ITS FALSE NEIGHBOUR: 'it returns false'. Refute it at one input. -/
def fnvShardsWrong : ChangeSpec := { name := "fnvShards", fn := fun _ => fun
  | [d1, d2] => { results := [.lit (.bool false)], args := [d1, d2] }
  | _ => none }
def FnvShardsWrongFalsely : Prop := fnvShardsRow.holds Try.pinned (OpenSpec.ofChange fnvShardsWrong)

/-- 'muleteerlaw17.TokenPlays': WHATEVER THE INPUT: true; the input reads as it did. -/
def tokenPlaysSpec : ChangeSpec := { name := "tokenPlays", fn := fun _ => fun
  | [d] => { results := [.lit (.bool true)], args := [d] }
  | _ => none }
def tokenPlaysRow : OpenClaim := { program := "ytkbobgkjlpgcaaa", sum := "193aa45d03439621a8021ea9c949bf5d15fa3f5149b63e5cee953791c01b763b", func := "muleteer/muleteerlaw17.TokenPlays", spec := "tokenPlays", apart := false }
def TokenPlaysSaid : Prop := tokenPlaysRow.holds Try.pinned (OpenSpec.ofChange tokenPlaysSpec)

/-- ITS FALSE NEIGHBOUR: 'it returns false'. Refute it at one input. -/
def tokenPlaysWrong : ChangeSpec := { name := "tokenPlays", fn := fun _ => fun
  | [d] => { results := [.lit (.bool false)], args := [d] }
  | _ => none }
def TokenPlaysWrongFalsely : Prop := tokenPlaysRow.holds Try.pinned (OpenSpec.ofChange tokenPlaysWrong)

/-- 'muleteerlaw17.TokenHangs': WHATEVER THE INPUT: true; the input reads as it did. -/
def tokenHangsSpec : ChangeSpec := { name := "tokenHangs", fn := fun _ => fun
  | [d1, d2, d3] => { results := [.lit (.bool true)], args := [d1, d2, d3] }
  | _ => none }
def tokenHangsRow : OpenClaim := { program := "ytkbobgkjlpgcaaa", sum := "193aa45d03439621a8021ea9c949bf5d15fa3f5149b63e5cee953791c01b763b", func := "muleteer/muleteerlaw17.TokenHangs", spec := "tokenHangs", apart := false }
def TokenHangsSaid : Prop := tokenHangsRow.holds Try.pinned (OpenSpec.ofChange tokenHangsSpec)

/-- ITS FALSE NEIGHBOUR: 'it returns false'. Refute it at one input. -/
def tokenHangsWrong : ChangeSpec := { name := "tokenHangs", fn := fun _ => fun
  | [d1, d2, d3] => { results := [.lit (.bool false)], args := [d1, d2, d3] }
  | _ => none }
def TokenHangsWrongFalsely : Prop := tokenHangsRow.holds Try.pinned (OpenSpec.ofChange tokenHangsWrong)

/-- 'muleteerlaw04.MsgFinds': WHATEVER THE INPUT: true; the input reads as it did. -/
def msgFindsSpec : ChangeSpec := { name := "msgFinds", fn := fun _ => fun
  | [d1, d2] => { results := [.lit (.bool true)], args := [d1, d2] }
  | _ => none }
def msgFindsRow : OpenClaim := { program := "ytkbobgkjlpgcaaa", sum := "193aa45d03439621a8021ea9c949bf5d15fa3f5149b63e5cee953791c01b763b", func := "muleteer/muleteerlaw04.MsgFinds", spec := "msgFinds", apart := false }
def MsgFindsSaid : Prop := msgFindsRow.holds Try.pinned (OpenSpec.ofChange msgFindsSpec)

/-- ITS FALSE NEIGHBOUR: 'it returns false'. Refute it at one input. -/
def msgFindsWrong : ChangeSpec := { name := "msgFinds", fn := fun _ => fun
  | [d1, d2] => { results := [.lit (.bool false)], args := [d1, d2] }
  | _ => none }
def MsgFindsWrongFalsely : Prop := msgFindsRow.holds Try.pinned (OpenSpec.ofChange msgFindsWrong)

/-- 'muleteerlaw20.FnvSpreads': WHATEVER THE INPUT: true; the input reads as it did. -/
def fnvSpreadsSpec : ChangeSpec := { name := "fnvSpreads", fn := fun _ => fun
  | [d1, d2] => { results := [.lit (.bool true)], args := [d1, d2] }
  | _ => none }
def fnvSpreadsRow : OpenClaim := { program := "ytkbobgkjlpgcaaa", sum := "193aa45d03439621a8021ea9c949bf5d15fa3f5149b63e5cee953791c01b763b", func := "muleteer/muleteerlaw20.FnvSpreads", spec := "fnvSpreads", apart := false }
def FnvSpreadsSaid : Prop := fnvSpreadsRow.holds Try.pinned (OpenSpec.ofChange fnvSpreadsSpec)

/-- ITS FALSE NEIGHBOUR: 'it returns false'. Refute it at one input. -/
def fnvSpreadsWrong : ChangeSpec := { name := "fnvSpreads", fn := fun _ => fun
  | [d1, d2] => { results := [.lit (.bool false)], args := [d1, d2] }
  | _ => none }
def FnvSpreadsWrongFalsely : Prop := fnvSpreadsRow.holds Try.pinned (OpenSpec.ofChange fnvSpreadsWrong)

/-- 'muleteerlaw19.PicksNext': WHATEVER THE INPUT: true; the input reads as it did. -/
def picksNextSpec : ChangeSpec := { name := "picksNext", fn := fun _ => fun
  | [d1, d2] => { results := [.lit (.bool true)], args := [d1, d2] }
  | _ => none }
def picksNextRow : OpenClaim := { program := "ytkbobgkjlpgcaaa", sum := "193aa45d03439621a8021ea9c949bf5d15fa3f5149b63e5cee953791c01b763b", func := "muleteer/muleteerlaw19.PicksNext", spec := "picksNext", apart := false }
def PicksNextSaid : Prop := picksNextRow.holds Try.pinned (OpenSpec.ofChange picksNextSpec)

/-- ITS FALSE NEIGHBOUR: 'it returns false'. Refute it at one input. -/
def picksNextWrong : ChangeSpec := { name := "picksNext", fn := fun _ => fun
  | [d1, d2] => { results := [.lit (.bool false)], args := [d1, d2] }
  | _ => none }
def PicksNextWrongFalsely : Prop := picksNextRow.holds Try.pinned (OpenSpec.ofChange picksNextWrong)

/-- 'muleteerlaw07.ConfMay': WHATEVER THE INPUT: true; the input reads as it did. -/
def confMaySpec : ChangeSpec := { name := "confMay", fn := fun _ => fun
  | [d1, d2] => { results := [.lit (.bool true)], args := [d1, d2] }
  | _ => none }
def confMayRow : OpenClaim := { program := "ytkbobgkjlpgcaaa", sum := "193aa45d03439621a8021ea9c949bf5d15fa3f5149b63e5cee953791c01b763b", func := "muleteer/muleteerlaw07.ConfMay", spec := "confMay", unfollowed := true, recurses := true, apart := false }
def ConfMaySaid : Prop := confMayRow.holds Try.pinned (OpenSpec.ofChange confMaySpec)

/-- ITS FALSE NEIGHBOUR: 'it returns false'. Refute it at one input. -/
def confMayWrong : ChangeSpec := { name := "confMay", fn := fun _ => fun
  | [d1, d2] => { results := [.lit (.bool false)], args := [d1, d2] }
  | _ => none }
def ConfMayWrongFalsely : Prop := confMayRow.holds Try.pinned (OpenSpec.ofChange confMayWrong)

/-- 'muleteerlaw07.ConfDirs': WHATEVER THE INPUT: true; the input reads as it did. -/
def confDirsSpec : ChangeSpec := { name := "confDirs", fn := fun _ => fun
  | [d1, d2, d3] => { results := [.lit (.bool true)], args := [d1, d2, d3] }
  | _ => none }
def confDirsRow : OpenClaim := { program := "ytkbobgkjlpgcaaa", sum := "193aa45d03439621a8021ea9c949bf5d15fa3f5149b63e5cee953791c01b763b", func := "muleteer/muleteerlaw07.ConfDirs", spec := "confDirs", unfollowed := true, recurses := true, apart := false }
def ConfDirsSaid : Prop := confDirsRow.holds Try.pinned (OpenSpec.ofChange confDirsSpec)

/-- ITS FALSE NEIGHBOUR: 'it returns false'. Refute it at one input. -/
def confDirsWrong : ChangeSpec := { name := "confDirs", fn := fun _ => fun
  | [d1, d2, d3] => { results := [.lit (.bool false)], args := [d1, d2, d3] }
  | _ => none }
def ConfDirsWrongFalsely : Prop := confDirsRow.holds Try.pinned (OpenSpec.ofChange confDirsWrong)

/-- 'muleteerlaw06.EventFinds': WHATEVER THE INPUT: true; the input reads as it did. -/
def eventFindsSpec : ChangeSpec := { name := "eventFinds", fn := fun _ => fun
  | [d1, d2, d3] => { results := [.lit (.bool true)], args := [d1, d2, d3] }
  | _ => none }
def eventFindsRow : OpenClaim := { program := "ytkbobgkjlpgcaaa", sum := "193aa45d03439621a8021ea9c949bf5d15fa3f5149b63e5cee953791c01b763b", func := "muleteer/muleteerlaw06.EventFinds", spec := "eventFinds", unfollowed := true, recurses := true, apart := false }
def EventFindsSaid : Prop := eventFindsRow.holds Try.pinned (OpenSpec.ofChange eventFindsSpec)

/-- ITS FALSE NEIGHBOUR: 'it returns false'. Refute it at one input. -/
def eventFindsWrong : ChangeSpec := { name := "eventFinds", fn := fun _ => fun
  | [d1, d2, d3] => { results := [.lit (.bool false)], args := [d1, d2, d3] }
  | _ => none }
def EventFindsWrongFalsely : Prop := eventFindsRow.holds Try.pinned (OpenSpec.ofChange eventFindsWrong)

/-- 'muleteerlaw18.LifePlays': WHATEVER THE INPUT: true; the input reads as it did. -/
def lifePlaysSpec : ChangeSpec := { name := "lifePlays", fn := fun _ => fun
  | [d1, d2] => { results := [.lit (.bool true)], args := [d1, d2] }
  | _ => none }
def lifePlaysRow : OpenClaim := { program := "ytkbobgkjlpgcaaa", sum := "193aa45d03439621a8021ea9c949bf5d15fa3f5149b63e5cee953791c01b763b", func := "muleteer/muleteerlaw18.LifePlays", spec := "lifePlays", unfollowed := true, recurses := true, apart := false }
def LifePlaysSaid : Prop := lifePlaysRow.holds Try.pinned (OpenSpec.ofChange lifePlaysSpec)

/-- ITS FALSE NEIGHBOUR: 'it returns false'. Refute it at one input. -/
def lifePlaysWrong : ChangeSpec := { name := "lifePlays", fn := fun _ => fun
  | [d1, d2] => { results := [.lit (.bool false)], args := [d1, d2] }
  | _ => none }
def LifePlaysWrongFalsely : Prop := lifePlaysRow.holds Try.pinned (OpenSpec.ofChange lifePlaysWrong)

/-- 'muleteerlaw18.LifeNobody': WHATEVER THE INPUT: true; the input reads as it did. -/
def lifeNobodySpec : ChangeSpec := { name := "lifeNobody", fn := fun _ => fun
  | [d1, d2] => { results := [.lit (.bool true)], args := [d1, d2] }
  | _ => none }
def lifeNobodyRow : OpenClaim := { program := "ytkbobgkjlpgcaaa", sum := "193aa45d03439621a8021ea9c949bf5d15fa3f5149b63e5cee953791c01b763b", func := "muleteer/muleteerlaw18.LifeNobody", spec := "lifeNobody", unfollowed := true, recurses := true, apart := false }
def LifeNobodySaid : Prop := lifeNobodyRow.holds Try.pinned (OpenSpec.ofChange lifeNobodySpec)

/-- ITS FALSE NEIGHBOUR: 'it returns false'. Refute it at one input. -/
def lifeNobodyWrong : ChangeSpec := { name := "lifeNobody", fn := fun _ => fun
  | [d1, d2] => { results := [.lit (.bool false)], args := [d1, d2] }
  | _ => none }
def LifeNobodyWrongFalsely : Prop := lifeNobodyRow.holds Try.pinned (OpenSpec.ofChange lifeNobodyWrong)

/- THE SECOND FORM. 'bulk': how many values and letters a reading holds, each counted each time it is reached (what is shared counts as often as it is met; a slice's spare places count too). A statement '..UptoSaid' is the law's where the arguments, and the package variables that the reading takes, are together of bulk at most 1048576: NARROWER than '..Said'. Prove '..Said' where nothing that the law and all that it calls make is longer than what came in: it says more and counts as full. Else prove '..UptoSaid'. A law counts once. -/
mutual
def uptoBulk {H : Type} : DataW H → Nat
  | .lit (.string bytes) => bytes.length + 1
  | .lit _ => 1
  | .nil => 1
  | .ptr d => uptoBulk d + 1
  | .slice elems spare => uptoBulkAll elems + uptoBulkAll spare + 1
  | .agg parts => uptoBulkAll parts + 1
  | .iface _ d => uptoBulk d + 1
  | .map entries => uptoBulkEntries entries + 1
  | .held _ => 1
def uptoBulkAll {H : Type} : List (DataW H) → Nat
  | [] => 0
  | d :: r => uptoBulk d + uptoBulkAll r
def uptoBulkEntries {H : Type} : List (Lit × DataW H) → Nat
  | [] => 0
  | x :: r => uptoBulkEntry x + uptoBulkEntries r
def uptoBulkEntry {H : Type} : Lit × DataW H → Nat
  | (.string bytes, d) => bytes.length + uptoBulk d + 1
  | (_, d) => uptoBulk d + 1
 end
def uptoSmall : (H : Type) → List (DataW H) → Bool := fun _ ds => decide (uptoBulkAll ds ≤ 1048576)
def OpenSpec.upto (s : _root_.Go.ChangeSpec) : _root_.Go.OpenSpec := { _root_.Go.OpenSpec.ofChange s with cond := some uptoSmall }

/-- 'muleteerlaw20.FnvSums', WHERE WHAT IT READS IS OF BULK AT MOST 1048576: true; the input reads as it did. -/
def fnvSumsUptoRow : OpenClaim := { program := "ytkbobgkjlpgcaaa", sum := "193aa45d03439621a8021ea9c949bf5d15fa3f5149b63e5cee953791c01b763b", func := "muleteer/muleteerlaw20.FnvSums", spec := "fnvSums", apart := false, narrowed := true }
def FnvSumsUptoSaid : Prop := fnvSumsUptoRow.holds Try.pinned (OpenSpec.upto fnvSumsSpec)

/-- 'muleteerlaw20.FnvShards', WHERE WHAT IT READS IS OF BULK AT MOST 1048576: true; the input reads as it did. -/
def fnvShardsUptoRow : OpenClaim := { program := "ytkbobgkjlpgcaaa", sum := "193aa45d03439621a8021ea9c949bf5d15fa3f5149b63e5cee953791c01b763b", func := "muleteer/muleteerlaw20.FnvShards", spec := "fnvShards", apart := false, narrowed := true }
def FnvShardsUptoSaid : Prop := fnvShardsUptoRow.holds Try.pinned (OpenSpec.upto fnvShardsSpec)

/-- 'muleteerlaw17.TokenPlays', WHERE WHAT IT READS IS OF BULK AT MOST 1048576: true; the input reads as it did. -/
def tokenPlaysUptoRow : OpenClaim := { program := "ytkbobgkjlpgcaaa", sum := "193aa45d03439621a8021ea9c949bf5d15fa3f5149b63e5cee953791c01b763b", func := "muleteer/muleteerlaw17.TokenPlays", spec := "tokenPlays", apart := false, narrowed := true }
def TokenPlaysUptoSaid : Prop := tokenPlaysUptoRow.holds Try.pinned (OpenSpec.upto tokenPlaysSpec)

/-- 'muleteerlaw17.TokenHangs', WHERE WHAT IT READS IS OF BULK AT MOST 1048576: true; the input reads as it did. -/
def tokenHangsUptoRow : OpenClaim := { program := "ytkbobgkjlpgcaaa", sum := "193aa45d03439621a8021ea9c949bf5d15fa3f5149b63e5cee953791c01b763b", func := "muleteer/muleteerlaw17.TokenHangs", spec := "tokenHangs", apart := false, narrowed := true }
def TokenHangsUptoSaid : Prop := tokenHangsUptoRow.holds Try.pinned (OpenSpec.upto tokenHangsSpec)

/-- 'muleteerlaw04.MsgFinds', WHERE WHAT IT READS IS OF BULK AT MOST 1048576: true; the input reads as it did. -/
def msgFindsUptoRow : OpenClaim := { program := "ytkbobgkjlpgcaaa", sum := "193aa45d03439621a8021ea9c949bf5d15fa3f5149b63e5cee953791c01b763b", func := "muleteer/muleteerlaw04.MsgFinds", spec := "msgFinds", apart := false, narrowed := true }
def MsgFindsUptoSaid : Prop := msgFindsUptoRow.holds Try.pinned (OpenSpec.upto msgFindsSpec)

/-- 'muleteerlaw20.FnvSpreads', WHERE WHAT IT READS IS OF BULK AT MOST 1048576: true; the input reads as it did. -/
def fnvSpreadsUptoRow : OpenClaim := { program := "ytkbobgkjlpgcaaa", sum := "193aa45d03439621a8021ea9c949bf5d15fa3f5149b63e5cee953791c01b763b", func := "muleteer/muleteerlaw20.FnvSpreads", spec := "fnvSpreads", apart := false, narrowed := true }
def FnvSpreadsUptoSaid : Prop := fnvSpreadsUptoRow.holds Try.pinned (OpenSpec.upto fnvSpreadsSpec)

/-- 'muleteerlaw19.PicksNext', WHERE WHAT IT READS IS OF BULK AT MOST 1048576: true; the input reads as it did. -/
def picksNextUptoRow : OpenClaim := { program := "ytkbobgkjlpgcaaa", sum := "193aa45d03439621a8021ea9c949bf5d15fa3f5149b63e5cee953791c01b763b", func := "muleteer/muleteerlaw19.PicksNext", spec := "picksNext", apart := false, narrowed := true }
def PicksNextUptoSaid : Prop := picksNextUptoRow.holds Try.pinned (OpenSpec.upto picksNextSpec)

/-- 'muleteerlaw07.ConfMay', WHERE WHAT IT READS IS OF BULK AT MOST 1048576: true; the input reads as it did. -/
def confMayUptoRow : OpenClaim := { program := "ytkbobgkjlpgcaaa", sum := "193aa45d03439621a8021ea9c949bf5d15fa3f5149b63e5cee953791c01b763b", func := "muleteer/muleteerlaw07.ConfMay", spec := "confMay", unfollowed := true, recurses := true, apart := false, narrowed := true }
def ConfMayUptoSaid : Prop := confMayUptoRow.holds Try.pinned (OpenSpec.upto confMaySpec)

/-- 'muleteerlaw07.ConfDirs', WHERE WHAT IT READS IS OF BULK AT MOST 1048576: true; the input reads as it did. -/
def confDirsUptoRow : OpenClaim := { program := "ytkbobgkjlpgcaaa", sum := "193aa45d03439621a8021ea9c949bf5d15fa3f5149b63e5cee953791c01b763b", func := "muleteer/muleteerlaw07.ConfDirs", spec := "confDirs", unfollowed := true, recurses := true, apart := false, narrowed := true }
def ConfDirsUptoSaid : Prop := confDirsUptoRow.holds Try.pinned (OpenSpec.upto confDirsSpec)

/-- 'muleteerlaw06.EventFinds', WHERE WHAT IT READS IS OF BULK AT MOST 1048576: true; the input reads as it did. -/
def eventFindsUptoRow : OpenClaim := { program := "ytkbobgkjlpgcaaa", sum := "193aa45d03439621a8021ea9c949bf5d15fa3f5149b63e5cee953791c01b763b", func := "muleteer/muleteerlaw06.EventFinds", spec := "eventFinds", unfollowed := true, recurses := true, apart := false, narrowed := true }
def EventFindsUptoSaid : Prop := eventFindsUptoRow.holds Try.pinned (OpenSpec.upto eventFindsSpec)

/-- 'muleteerlaw18.LifePlays', WHERE WHAT IT READS IS OF BULK AT MOST 1048576: true; the input reads as it did. -/
def lifePlaysUptoRow : OpenClaim := { program := "ytkbobgkjlpgcaaa", sum := "193aa45d03439621a8021ea9c949bf5d15fa3f5149b63e5cee953791c01b763b", func := "muleteer/muleteerlaw18.LifePlays", spec := "lifePlays", unfollowed := true, recurses := true, apart := false, narrowed := true }
def LifePlaysUptoSaid : Prop := lifePlaysUptoRow.holds Try.pinned (OpenSpec.upto lifePlaysSpec)

/-- 'muleteerlaw18.LifeNobody', WHERE WHAT IT READS IS OF BULK AT MOST 1048576: true; the input reads as it did. -/
def lifeNobodyUptoRow : OpenClaim := { program := "ytkbobgkjlpgcaaa", sum := "193aa45d03439621a8021ea9c949bf5d15fa3f5149b63e5cee953791c01b763b", func := "muleteer/muleteerlaw18.LifeNobody", spec := "lifeNobody", unfollowed := true, recurses := true, apart := false, narrowed := true }
def LifeNobodyUptoSaid : Prop := lifeNobodyUptoRow.holds Try.pinned (OpenSpec.upto lifeNobodySpec)

end Rows
end Go.Proofs.Ytkbobgkjlpgcaaa
