/-
  DERIVED. GIVEN WITH THE SEED: THE CARDS: each row of YtlnljnldpnhjiaaDoorRows.lean that lists a variable, with what it lists TIED to the program's text (the seventh form; the later family's looks); each row that meets fmt, with fmt's text TOLD by the authors' own Lean function (tested against real Go, not proved from fmt's source: count such statements apart). THE CARD IS WHAT COUNTS. Prove the row's statement (the work); the ties are given (YtlnljnldpnhjiaaDoorTie.lean); close each card by the builder's one call (the guide's Derived/Test/ToyasCard.lean, 'card_holds'). Laid BY PROGRAM, IN A SANDBOX (cutbox-door.mjs). By AI agents, Wed Nov 11 2026. No macro, syntax, notation, axiom, sorry.
-/
import Derived.Test.YtlnljnldpnhjiaaDoorRows
import GoSem.ClaimSeven
namespace Go.Proofs.YtlnljnldpnhjiaaDoor
namespace Rows

/-- THE TIED CARD OF 'muleteerlaw08.FaultKeeps'. -/
def faultKeepsCard : Claim7 := { stood := { row := faultKeepsRow, standIns := [], harness := (true, "127c7307307f72261c07cca0d305695da7b666fd7ae6b31b6330189260a62174"), looks := true }, kinds := [], alts := [], laidByText := true, laidKinds := [.handle], laidTests := true, laidLooks := .later }
def FaultKeepsCardSaid : Prop := Claim7.holds Tryd.pinned (.plain (OpenSpec.ofChange faultKeepsSpec)) faultKeepsCard

/-- THE TIED CARD OF 'muleteerlaw08.FaultWraps'. -/
def faultWrapsCard : Claim7 := { stood := { row := faultWrapsRow, standIns := [], harness := (true, "127c7307307f72261c07cca0d305695da7b666fd7ae6b31b6330189260a62174"), looks := true }, kinds := [], alts := [], laidByText := true, laidKinds := [.handle], laidTests := true, laidLooks := .later }
def FaultWrapsCardSaid : Prop := Claim7.holds Tryd.pinned (.plain (OpenSpec.ofChange faultWrapsSpec)) faultWrapsCard

/-- THE TIED CARD OF 'muleteerlaw08.FaultOthers'. -/
def faultOthersCard : Claim7 := { stood := { row := faultOthersRow, standIns := [], harness := (true, "127c7307307f72261c07cca0d305695da7b666fd7ae6b31b6330189260a62174"), looks := true }, kinds := [], alts := [], laidByText := true, laidKinds := [.handle], laidTests := true, laidLooks := .later }
def FaultOthersCardSaid : Prop := Claim7.holds Tryd.pinned (.plain (OpenSpec.ofChange faultOthersSpec)) faultOthersCard

/-- THE TIED CARD OF 'muleteerlaw28.OutcomeWraps'. -/
def outcomeWrapsCard : Claim7 := { stood := { row := outcomeWrapsRow, standIns := [], harness := (true, "127c7307307f72261c07cca0d305695da7b666fd7ae6b31b6330189260a62174"), looks := true }, kinds := [], alts := [], laidByText := true, laidKinds := [.handle], laidTests := true, laidLooks := .later }
def OutcomeWrapsCardSaid : Prop := Claim7.holds Tryd.pinned (.plain (OpenSpec.ofChange outcomeWrapsSpec)) outcomeWrapsCard

/-- THE TIED CARD OF 'muleteerlaw28.OutcomeOf'. -/
def outcomeOfCard : Claim7 := { stood := { row := outcomeOfRow, standIns := [], harness := (true, "127c7307307f72261c07cca0d305695da7b666fd7ae6b31b6330189260a62174"), looks := true }, kinds := [], alts := [], laidByText := true, laidKinds := [.handle], laidTests := true, laidLooks := .later }
def OutcomeOfCardSaid : Prop := Claim7.holds Tryd.pinned (.plain (OpenSpec.ofChange outcomeOfSpec)) outcomeOfCard

/-- THE TIED CARD OF 'muleteerlaw28.OutcomeTells'. -/
def outcomeTellsCard : Claim7 := { stood := { row := outcomeTellsRow, standIns := [], harness := (true, "127c7307307f72261c07cca0d305695da7b666fd7ae6b31b6330189260a62174"), looks := true }, kinds := [], alts := [], laidByText := true, laidKinds := [.handle], laidTests := true, laidLooks := .later }
def OutcomeTellsCardSaid : Prop := Claim7.holds Tryd.pinned (.plain (OpenSpec.ofChange outcomeTellsSpec)) outcomeTellsCard

/-- THE SECOND FORM's CARD OF 'muleteerlaw08.FaultKeeps'. -/
def faultKeepsUptoCard : Claim7 := { stood := { row := faultKeepsUptoRow, standIns := [], harness := (true, "127c7307307f72261c07cca0d305695da7b666fd7ae6b31b6330189260a62174"), looks := true }, kinds := [], alts := [], laidByText := true, laidKinds := [.handle], laidTests := true, laidLooks := .later }
def FaultKeepsUptoCardSaid : Prop := Claim7.holds Tryd.pinned (.plain (OpenSpec.upto faultKeepsSpec)) faultKeepsUptoCard

/-- THE SECOND FORM's CARD OF 'muleteerlaw08.FaultWraps'. -/
def faultWrapsUptoCard : Claim7 := { stood := { row := faultWrapsUptoRow, standIns := [], harness := (true, "127c7307307f72261c07cca0d305695da7b666fd7ae6b31b6330189260a62174"), looks := true }, kinds := [], alts := [], laidByText := true, laidKinds := [.handle], laidTests := true, laidLooks := .later }
def FaultWrapsUptoCardSaid : Prop := Claim7.holds Tryd.pinned (.plain (OpenSpec.upto faultWrapsSpec)) faultWrapsUptoCard

/-- THE SECOND FORM's CARD OF 'muleteerlaw08.FaultOthers'. -/
def faultOthersUptoCard : Claim7 := { stood := { row := faultOthersUptoRow, standIns := [], harness := (true, "127c7307307f72261c07cca0d305695da7b666fd7ae6b31b6330189260a62174"), looks := true }, kinds := [], alts := [], laidByText := true, laidKinds := [.handle], laidTests := true, laidLooks := .later }
def FaultOthersUptoCardSaid : Prop := Claim7.holds Tryd.pinned (.plain (OpenSpec.upto faultOthersSpec)) faultOthersUptoCard

/-- THE SECOND FORM's CARD OF 'muleteerlaw28.OutcomeWraps'. -/
def outcomeWrapsUptoCard : Claim7 := { stood := { row := outcomeWrapsUptoRow, standIns := [], harness := (true, "127c7307307f72261c07cca0d305695da7b666fd7ae6b31b6330189260a62174"), looks := true }, kinds := [], alts := [], laidByText := true, laidKinds := [.handle], laidTests := true, laidLooks := .later }
def OutcomeWrapsUptoCardSaid : Prop := Claim7.holds Tryd.pinned (.plain (OpenSpec.upto outcomeWrapsSpec)) outcomeWrapsUptoCard

/-- THE SECOND FORM's CARD OF 'muleteerlaw28.OutcomeOf'. -/
def outcomeOfUptoCard : Claim7 := { stood := { row := outcomeOfUptoRow, standIns := [], harness := (true, "127c7307307f72261c07cca0d305695da7b666fd7ae6b31b6330189260a62174"), looks := true }, kinds := [], alts := [], laidByText := true, laidKinds := [.handle], laidTests := true, laidLooks := .later }
def OutcomeOfUptoCardSaid : Prop := Claim7.holds Tryd.pinned (.plain (OpenSpec.upto outcomeOfSpec)) outcomeOfUptoCard

/-- THE SECOND FORM's CARD OF 'muleteerlaw28.OutcomeTells'. -/
def outcomeTellsUptoCard : Claim7 := { stood := { row := outcomeTellsUptoRow, standIns := [], harness := (true, "127c7307307f72261c07cca0d305695da7b666fd7ae6b31b6330189260a62174"), looks := true }, kinds := [], alts := [], laidByText := true, laidKinds := [.handle], laidTests := true, laidLooks := .later }
def OutcomeTellsUptoCardSaid : Prop := Claim7.holds Tryd.pinned (.plain (OpenSpec.upto outcomeTellsSpec)) outcomeTellsUptoCard
end Rows
end Go.Proofs.YtlnljnldpnhjiaaDoor
