/-
  DERIVED. GIVEN WITH THE SEED: THE CARDS: each row of YtcalkhlchjjalaaDoorRows.lean that lists a variable, with what it lists TIED to the program's text (the seventh form; the later family's looks); each row that meets fmt, with fmt's text TOLD by the authors' own Lean function (tested against real Go, not proved from fmt's source: count such statements apart). THE CARD IS WHAT COUNTS. Prove the row's statement (the work); the ties are given (YtcalkhlchjjalaaDoorTie.lean); close each card by the builder's one call (the guide's Derived/Test/ToyasCard.lean, 'card_holds'). Laid BY PROGRAM, IN A SANDBOX (cutbox-door.mjs). By AI agents, Wed Nov 11 2026. No macro, syntax, notation, axiom, sorry.
-/
import Derived.Test.YtcalkhlchjjalaaDoorRows
import GoSem.ClaimSeven
namespace Go.Proofs.YtcalkhlchjjalaaDoor
namespace Rows

/-- THE TIED CARD OF 'storagebarterlaw15.StatementNext'. -/
def statementNextCard : Claim7 := { stood := { row := statementNextRow, standIns := [], harness := (true, "5d651258c026d4f3c1937d3a0b343ce8ca524cb81f341bc712b54841b9e85cc9"), looks := false }, kinds := [], alts := [], laidByText := true, laidKinds := [.wider, .wider, .data], laidTests := true, laidLooks := .later }
def StatementNextCardSaid : Prop := Claim7.holds Tryd.pinned (.plain (OpenSpec.ofChange statementNextSpec)) statementNextCard

/-- THE TIED CARD OF 'storagebarterlaw15.StatementChecks'. -/
def statementChecksCard : Claim7 := { stood := { row := statementChecksRow, standIns := [], harness := (true, "5d651258c026d4f3c1937d3a0b343ce8ca524cb81f341bc712b54841b9e85cc9"), looks := false }, kinds := [], alts := [], laidByText := true, laidKinds := [.wider, .wider, .data], laidTests := true, laidLooks := .later }
def StatementChecksCardSaid : Prop := Claim7.holds Tryd.pinned (.plain (OpenSpec.ofChange statementChecksSpec)) statementChecksCard

/-- THE TIED CARD OF 'storagebarterlaw15.StatementChains'. -/
def statementChainsCard : Claim7 := { stood := { row := statementChainsRow, standIns := [], harness := (true, "5d651258c026d4f3c1937d3a0b343ce8ca524cb81f341bc712b54841b9e85cc9"), looks := false }, kinds := [], alts := [], laidByText := true, laidKinds := [.wider, .wider, .data], laidTests := true, laidLooks := .later }
def StatementChainsCardSaid : Prop := Claim7.holds Tryd.pinned (.plain (OpenSpec.ofChange statementChainsSpec)) statementChainsCard

/-- THE TIED CARD OF 'storagebarterlaw15.StatementMarks'. -/
def statementMarksCard : Claim7 := { stood := { row := statementMarksRow, standIns := [], harness := (true, "5d651258c026d4f3c1937d3a0b343ce8ca524cb81f341bc712b54841b9e85cc9"), looks := false }, kinds := [], alts := [], laidByText := true, laidKinds := [.wider, .wider, .data], laidTests := true, laidLooks := .later }
def StatementMarksCardSaid : Prop := Claim7.holds Tryd.pinned (.plain (OpenSpec.ofChange statementMarksSpec)) statementMarksCard

/-- THE TIED CARD OF 'storagebarterlaw15.StatementOrder'. -/
def statementOrderCard : Claim7 := { stood := { row := statementOrderRow, standIns := [], harness := (true, "5d651258c026d4f3c1937d3a0b343ce8ca524cb81f341bc712b54841b9e85cc9"), looks := false }, kinds := [], alts := [], laidByText := true, laidKinds := [.wider, .wider, .data], laidTests := true, laidLooks := .later }
def StatementOrderCardSaid : Prop := Claim7.holds Tryd.pinned (.plain (OpenSpec.ofChange statementOrderSpec)) statementOrderCard

/-- THE SECOND FORM's CARD OF 'storagebarterlaw15.StatementNext'. -/
def statementNextUptoCard : Claim7 := { stood := { row := statementNextUptoRow, standIns := [], harness := (true, "5d651258c026d4f3c1937d3a0b343ce8ca524cb81f341bc712b54841b9e85cc9"), looks := false }, kinds := [], alts := [], laidByText := true, laidKinds := [.wider, .wider, .data], laidTests := true, laidLooks := .later }
def StatementNextUptoCardSaid : Prop := Claim7.holds Tryd.pinned (.plain (OpenSpec.upto statementNextSpec)) statementNextUptoCard

/-- THE SECOND FORM's CARD OF 'storagebarterlaw15.StatementChecks'. -/
def statementChecksUptoCard : Claim7 := { stood := { row := statementChecksUptoRow, standIns := [], harness := (true, "5d651258c026d4f3c1937d3a0b343ce8ca524cb81f341bc712b54841b9e85cc9"), looks := false }, kinds := [], alts := [], laidByText := true, laidKinds := [.wider, .wider, .data], laidTests := true, laidLooks := .later }
def StatementChecksUptoCardSaid : Prop := Claim7.holds Tryd.pinned (.plain (OpenSpec.upto statementChecksSpec)) statementChecksUptoCard

/-- THE SECOND FORM's CARD OF 'storagebarterlaw15.StatementChains'. -/
def statementChainsUptoCard : Claim7 := { stood := { row := statementChainsUptoRow, standIns := [], harness := (true, "5d651258c026d4f3c1937d3a0b343ce8ca524cb81f341bc712b54841b9e85cc9"), looks := false }, kinds := [], alts := [], laidByText := true, laidKinds := [.wider, .wider, .data], laidTests := true, laidLooks := .later }
def StatementChainsUptoCardSaid : Prop := Claim7.holds Tryd.pinned (.plain (OpenSpec.upto statementChainsSpec)) statementChainsUptoCard

/-- THE SECOND FORM's CARD OF 'storagebarterlaw15.StatementMarks'. -/
def statementMarksUptoCard : Claim7 := { stood := { row := statementMarksUptoRow, standIns := [], harness := (true, "5d651258c026d4f3c1937d3a0b343ce8ca524cb81f341bc712b54841b9e85cc9"), looks := false }, kinds := [], alts := [], laidByText := true, laidKinds := [.wider, .wider, .data], laidTests := true, laidLooks := .later }
def StatementMarksUptoCardSaid : Prop := Claim7.holds Tryd.pinned (.plain (OpenSpec.upto statementMarksSpec)) statementMarksUptoCard

/-- THE SECOND FORM's CARD OF 'storagebarterlaw15.StatementOrder'. -/
def statementOrderUptoCard : Claim7 := { stood := { row := statementOrderUptoRow, standIns := [], harness := (true, "5d651258c026d4f3c1937d3a0b343ce8ca524cb81f341bc712b54841b9e85cc9"), looks := false }, kinds := [], alts := [], laidByText := true, laidKinds := [.wider, .wider, .data], laidTests := true, laidLooks := .later }
def StatementOrderUptoCardSaid : Prop := Claim7.holds Tryd.pinned (.plain (OpenSpec.upto statementOrderSpec)) statementOrderUptoCard
end Rows
end Go.Proofs.YtcalkhlchjjalaaDoor
