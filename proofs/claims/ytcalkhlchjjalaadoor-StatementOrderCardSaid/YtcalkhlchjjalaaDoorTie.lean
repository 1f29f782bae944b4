/-
  DERIVED. GIVEN WITH THE SEED: THE PROGRAM's TIES (one call each: nine closed facts by the kernel) AND EACH ROW's TIE, after the 31st guide's Derived/Test/Toyas{Tie, Card}.lean. No idea stands in it: it is a product of the set-up. Laid BY PROGRAM, IN A SANDBOX (cutbox-door.mjs). By AI agents, Wed Nov 11 2026. No macro, syntax, notation, axiom, sorry.
-/
import Derived.Test.YtcalkhlchjjalaaDoorRows
import Derived.LaidByTextLater
import Derived.SevenTiedAt
import Derived.LaidSub
import Derived.LaidOnce
namespace Go.Proofs.YtcalkhlchjjalaaDoor
open Go
set_option maxRecDepth 100000
theorem seatTie1 : Tryd.prog.laidByTextLater [("storagebarter/statement.number", Rows.laid_storagebarter_statement_number), ("storagebarter/statement.person", Rows.laid_storagebarter_statement_person), ("storagebarter/statement.forms", Rows.laid_storagebarter_statement_forms)] [.wider, .wider, .data] true :=
  Program.laidByTextLater_by_one 52 8 91 (by kernel_rfl) (by kernel_rfl) (by kernel_rfl) (by kernel_rfl) (by kernel_rfl) (by kernel_rfl) (fun _ _ => by kernel_rfl)
theorem noOwnUnsafe : Tryd.pinned.checked.prog.headLifts.contains "ownunsafe" = false := by kernel_rfl
theorem tie : Tryd.prog.laidByTextLater [("storagebarter/statement.number", Rows.laid_storagebarter_statement_number), ("storagebarter/statement.person", Rows.laid_storagebarter_statement_person), ("storagebarter/statement.forms", Rows.laid_storagebarter_statement_forms)] [.wider, .wider, .data] true :=
  Program.laidByTextLater.sub seatTie1 ["storagebarter/statement.number", "storagebarter/statement.person", "storagebarter/statement.forms"] (by kernel_rfl) (by kernel_rfl)
theorem statementNext_row_tie : Rows.statementNextRow.laidByTextAt .later Tryd.pinned [.wider, .wider, .data] true :=
  OpenClaim.laidByTextAt_later rfl rfl tie noOwnUnsafe
theorem statementChecks_row_tie : Rows.statementChecksRow.laidByTextAt .later Tryd.pinned [.wider, .wider, .data] true :=
  OpenClaim.laidByTextAt_later rfl rfl tie noOwnUnsafe
theorem statementChains_row_tie : Rows.statementChainsRow.laidByTextAt .later Tryd.pinned [.wider, .wider, .data] true :=
  OpenClaim.laidByTextAt_later rfl rfl tie noOwnUnsafe
theorem statementMarks_row_tie : Rows.statementMarksRow.laidByTextAt .later Tryd.pinned [.wider, .wider, .data] true :=
  OpenClaim.laidByTextAt_later rfl rfl tie noOwnUnsafe
theorem statementOrder_row_tie : Rows.statementOrderRow.laidByTextAt .later Tryd.pinned [.wider, .wider, .data] true :=
  OpenClaim.laidByTextAt_later rfl rfl tie noOwnUnsafe
theorem statementNextUpto_row_tie : Rows.statementNextUptoRow.laidByTextAt .later Tryd.pinned [.wider, .wider, .data] true :=
  OpenClaim.laidByTextAt_later rfl rfl tie noOwnUnsafe
theorem statementChecksUpto_row_tie : Rows.statementChecksUptoRow.laidByTextAt .later Tryd.pinned [.wider, .wider, .data] true :=
  OpenClaim.laidByTextAt_later rfl rfl tie noOwnUnsafe
theorem statementChainsUpto_row_tie : Rows.statementChainsUptoRow.laidByTextAt .later Tryd.pinned [.wider, .wider, .data] true :=
  OpenClaim.laidByTextAt_later rfl rfl tie noOwnUnsafe
theorem statementMarksUpto_row_tie : Rows.statementMarksUptoRow.laidByTextAt .later Tryd.pinned [.wider, .wider, .data] true :=
  OpenClaim.laidByTextAt_later rfl rfl tie noOwnUnsafe
theorem statementOrderUpto_row_tie : Rows.statementOrderUptoRow.laidByTextAt .later Tryd.pinned [.wider, .wider, .data] true :=
  OpenClaim.laidByTextAt_later rfl rfl tie noOwnUnsafe
end Go.Proofs.YtcalkhlchjjalaaDoor
