/-
  NARROWER THAN 'FOR EVERY INPUT', by the rows' own cells (each row's printed sentence says how): StatementNext: laid · StatementChecks: laid · StatementChains: laid · StatementMarks: laid · StatementOrder: laid.
  DERIVED. THE GIVEN ROWS OF THIS SEAT. 5 by the template 'for every input the law returns true; each argument reads behind the call as it read before'; 0 by the template 'total and deterministic' (their statements: YtcalkhlchjjalaaDoorTotals.lean).
  GIVEN WITH THE SEED: the statements are not yours to turn. If you find one false, say at which input.
  Laid BY PROGRAM, IN A SANDBOX (cutbox-rows.mjs): the forced cells as the released guide's own fill.sh prints them over the translation 92e09b6d0107eec9… (all of the seat's roots in one cut). By AI agents, Wed Nov 11 2026. No macro, syntax, notation, axiom, sorry.
-/
import Derived.Test.YtcalkhlchjjalaaDoorChecked
import GoSem.Claim
import GoSem.ClaimJoined
import GoSem.ClaimMapViews
import Derived.JoinedTies
import Derived.KernelRfl
namespace Go.Proofs.YtcalkhlchjjalaaDoor
/- THE CELL 'sum', in the pinned program and in every row, IS THE sha256 OF THE DUMP (.gsa) THAT YtcalkhlchjjalaaDoorProg.lean LOADS. Nothing in Lean hashes anything: it is a label: what it is worth is what the hold of that sum in a sandbox is worth. -/
noncomputable def Tryd.pinned : Pinned := { name := "ytcalkhlchjjalaadoor", sum := "92e09b6d0107eec912e8fb4ccfbbb93e2df986070894e989f43d156f9f263adc", checked := Tryd.checked }
namespace Rows
def none {H : Type} : Left H := { results := [], args := [] }

/- WHAT THE LISTED PACKAGE-LEVEL VARIABLES READ AS WHEN THE CALL BEGINS. Each datum BY PROGRAM (the guide's laid-datum.mjs) off the statement by which the dump's own 'gosem.cut.vars' lays the variable. In a bare row this is a premise. The card (YtcalkhlchjjalaaDoorCards.lean) ties it to the program's text. -/
def laid_storagebarter_statement_number {H : Type} : DataW H := .agg [.lit (.int .i64 0), .lit (.int .i64 2147483646)]
def laid_storagebarter_statement_person {H : Type} : DataW H := .agg [.lit (.int .i64 1), .lit (.int .i64 2147483646)]
def laid_storagebarter_statement_forms {H : Type} : DataW H := .agg [.agg [.agg [.lit (.int .i64 0), .lit (.int .i64 0)], .agg [.lit (.int .i64 0), .lit (.int .i64 0)], .agg [.lit (.int .i64 0), .lit (.int .i64 0)], .agg [.lit (.int .i64 0), .lit (.int .i64 0)], .lit (.bool false), .lit (.bool false)], .agg [.agg [.lit (.int .i64 0), .lit (.int .i64 63)], .agg [.lit (.int .i64 0), .lit (.int .i64 2147483646)], .agg [.lit (.int .i64 1), .lit (.int .i64 1024)], .agg [.lit (.int .i64 1), .lit (.int .i64 65536)], .lit (.bool true), .lit (.bool false)], .agg [.agg [.lit (.int .i64 0), .lit (.int .i64 63)], .agg [.lit (.int .i64 0), .lit (.int .i64 0)], .agg [.lit (.int .i64 0), .lit (.int .i64 0)], .agg [.lit (.int .i64 1), .lit (.int .i64 65536)], .lit (.bool true), .lit (.bool false)], .agg [.agg [.lit (.int .i64 0), .lit (.int .i64 63)], .agg [.lit (.int .i64 0), .lit (.int .i64 0)], .agg [.lit (.int .i64 0), .lit (.int .i64 0)], .agg [.lit (.int .i64 0), .lit (.int .i64 0)], .lit (.bool false), .lit (.bool false)], .agg [.agg [.lit (.int .i64 0), .lit (.int .i64 63)], .agg [.lit (.int .i64 0), .lit (.int .i64 2147483646)], .agg [.lit (.int .i64 1), .lit (.int .i64 1024)], .agg [.lit (.int .i64 0), .lit (.int .i64 0)], .lit (.bool false), .lit (.bool false)], .agg [.agg [.lit (.int .i64 0), .lit (.int .i64 63)], .agg [.lit (.int .i64 0), .lit (.int .i64 0)], .agg [.lit (.int .i64 0), .lit (.int .i64 0)], .agg [.lit (.int .i64 0), .lit (.int .i64 0)], .lit (.bool false), .lit (.bool false)], .agg [.agg [.lit (.int .i64 0), .lit (.int .i64 2147483646)], .agg [.lit (.int .i64 0), .lit (.int .i64 2147483646)], .agg [.lit (.int .i64 0), .lit (.int .i64 256)], .agg [.lit (.int .i64 0), .lit (.int .i64 0)], .lit (.bool false), .lit (.bool false)], .agg [.agg [.lit (.int .i64 0), .lit (.int .i64 2147483646)], .agg [.lit (.int .i64 0), .lit (.int .i64 2147483646)], .agg [.lit (.int .i64 1), .lit (.int .i64 1024)], .agg [.lit (.int .i64 0), .lit (.int .i64 4294967293)], .lit (.bool false), .lit (.bool true)], .agg [.agg [.lit (.int .i64 0), .lit (.int .i64 2147483646)], .agg [.lit (.int .i64 0), .lit (.int .i64 4294967293)], .agg [.lit (.int .i64 0), .lit (.int .i64 0)], .agg [.lit (.int .i64 0), .lit (.int .i64 0)], .lit (.bool false), .lit (.bool false)]]

/-- 'storagebarterlaw15.StatementNext': WHATEVER THE INPUT: true; the input reads as it did. -/
def statementNextSpec : ChangeSpec := { name := "statementNext", fn := fun _ => fun
  | [d1, d2, d3, d4, d5, d6, d7, d8, d9, d10] => { results := [.lit (.bool true)], args := [d1, d2, d3, d4, d5, d6, d7, d8, d9, d10] }
  | _ => none }
def statementNextRow : OpenClaim := { program := "ytcalkhlchjjalaadoor", sum := "92e09b6d0107eec912e8fb4ccfbbb93e2df986070894e989f43d156f9f263adc", func := "storagebarter/storagebarterlaw15.StatementNext", spec := "statementNext", unfollowed := true, recurses := true, named := ["storagebarter/statement.person", "storagebarter/statement.number", "storagebarter/statement.forms"], apart := false, laid := [("storagebarter/statement.number", laid_storagebarter_statement_number), ("storagebarter/statement.person", laid_storagebarter_statement_person), ("storagebarter/statement.forms", laid_storagebarter_statement_forms)] }
def StatementNextSaid : Prop := statementNextRow.holds Tryd.pinned (OpenSpec.ofChange statementNextSpec)

/-- ITS FALSE NEIGHBOUR: 'it returns false'. Refute it at one input. -/
def statementNextWrong : ChangeSpec := { name := "statementNext", fn := fun _ => fun
  | [d1, d2, d3, d4, d5, d6, d7, d8, d9, d10] => { results := [.lit (.bool false)], args := [d1, d2, d3, d4, d5, d6, d7, d8, d9, d10] }
  | _ => none }
def StatementNextWrongFalsely : Prop := statementNextRow.holds Tryd.pinned (OpenSpec.ofChange statementNextWrong)

/-- 'storagebarterlaw15.StatementChecks': WHATEVER THE INPUT: true; the input reads as it did. -/
def statementChecksSpec : ChangeSpec := { name := "statementChecks", fn := fun _ => fun
  | [d1, d2, d3, d4, d5] => { results := [.lit (.bool true)], args := [d1, d2, d3, d4, d5] }
  | _ => none }
def statementChecksRow : OpenClaim := { program := "ytcalkhlchjjalaadoor", sum := "92e09b6d0107eec912e8fb4ccfbbb93e2df986070894e989f43d156f9f263adc", func := "storagebarter/storagebarterlaw15.StatementChecks", spec := "statementChecks", unfollowed := true, recurses := true, named := ["storagebarter/statement.person", "storagebarter/statement.number", "storagebarter/statement.forms"], apart := false, laid := [("storagebarter/statement.number", laid_storagebarter_statement_number), ("storagebarter/statement.person", laid_storagebarter_statement_person), ("storagebarter/statement.forms", laid_storagebarter_statement_forms)] }
def StatementChecksSaid : Prop := statementChecksRow.holds Tryd.pinned (OpenSpec.ofChange statementChecksSpec)

/-- ITS FALSE NEIGHBOUR: 'it returns false'. Refute it at one input. -/
def statementChecksWrong : ChangeSpec := { name := "statementChecks", fn := fun _ => fun
  | [d1, d2, d3, d4, d5] => { results := [.lit (.bool false)], args := [d1, d2, d3, d4, d5] }
  | _ => none }
def StatementChecksWrongFalsely : Prop := statementChecksRow.holds Tryd.pinned (OpenSpec.ofChange statementChecksWrong)

/-- 'storagebarterlaw15.StatementChains': WHATEVER THE INPUT: true; the input reads as it did. -/
def statementChainsSpec : ChangeSpec := { name := "statementChains", fn := fun _ => fun
  | [d1, d2, d3] => { results := [.lit (.bool true)], args := [d1, d2, d3] }
  | _ => none }
def statementChainsRow : OpenClaim := { program := "ytcalkhlchjjalaadoor", sum := "92e09b6d0107eec912e8fb4ccfbbb93e2df986070894e989f43d156f9f263adc", func := "storagebarter/storagebarterlaw15.StatementChains", spec := "statementChains", unfollowed := true, recurses := true, named := ["storagebarter/statement.person", "storagebarter/statement.number", "storagebarter/statement.forms"], apart := false, laid := [("storagebarter/statement.number", laid_storagebarter_statement_number), ("storagebarter/statement.person", laid_storagebarter_statement_person), ("storagebarter/statement.forms", laid_storagebarter_statement_forms)] }
def StatementChainsSaid : Prop := statementChainsRow.holds Tryd.pinned (OpenSpec.ofChange statementChainsSpec)

/-- ITS FALSE NEIGHBOUR: 'it returns false'. Refute it at one input. -/
def statementChainsWrong : ChangeSpec := { name := "statementChains", fn := fun _ => fun
  | [d1, d2, d3] => { results := [.lit (.bool false)], args := [d1, d2, d3] }
  | _ => none }
def StatementChainsWrongFalsely : Prop := statementChainsRow.holds Tryd.pinned (OpenSpec.ofChange statementChainsWrong)

/-- 'storagebarterlaw15.StatementMarks': WHATEVER THE INPUT: true; the input reads as it did. -/
def statementMarksSpec : ChangeSpec := { name := "statementMarks", fn := fun _ => fun
  | [d1, d2] => { results := [.lit (.bool true)], args := [d1, d2] }
  | _ => none }
def statementMarksRow : OpenClaim := { program := "ytcalkhlchjjalaadoor", sum := "92e09b6d0107eec912e8fb4ccfbbb93e2df986070894e989f43d156f9f263adc", func := "storagebarter/storagebarterlaw15.StatementMarks", spec := "statementMarks", unfollowed := true, recurses := true, named := ["storagebarter/statement.person", "storagebarter/statement.number", "storagebarter/statement.forms"], apart := false, laid := [("storagebarter/statement.number", laid_storagebarter_statement_number), ("storagebarter/statement.person", laid_storagebarter_statement_person), ("storagebarter/statement.forms", laid_storagebarter_statement_forms)] }
def StatementMarksSaid : Prop := statementMarksRow.holds Tryd.pinned (OpenSpec.ofChange statementMarksSpec)

/-- ITS FALSE NEIGHBOUR: 'it returns false'. Refute it at one input. -/
def statementMarksWrong : ChangeSpec := { name := "statementMarks", fn := fun _ => fun
  | [d1, d2] => { results := [.lit (.bool false)], args := [d1, d2] }
  | _ => none }
def StatementMarksWrongFalsely : Prop := statementMarksRow.holds Tryd.pinned (OpenSpec.ofChange statementMarksWrong)

/-- 'storagebarterlaw15.StatementOrder': WHATEVER THE INPUT: true; the input reads as it did. -/
def statementOrderSpec : ChangeSpec := { name := "statementOrder", fn := fun _ => fun
  | [d1, d2, d3] => { results := [.lit (.bool true)], args := [d1, d2, d3] }
  | _ => none }
def statementOrderRow : OpenClaim := { program := "ytcalkhlchjjalaadoor", sum := "92e09b6d0107eec912e8fb4ccfbbb93e2df986070894e989f43d156f9f263adc", func := "storagebarter/storagebarterlaw15.StatementOrder", spec := "statementOrder", unfollowed := true, recurses := true, named := ["storagebarter/statement.person", "storagebarter/statement.number", "storagebarter/statement.forms"], apart := false, laid := [("storagebarter/statement.number", laid_storagebarter_statement_number), ("storagebarter/statement.person", laid_storagebarter_statement_person), ("storagebarter/statement.forms", laid_storagebarter_statement_forms)] }
def StatementOrderSaid : Prop := statementOrderRow.holds Tryd.pinned (OpenSpec.ofChange statementOrderSpec)

/-- ITS FALSE NEIGHBOUR: 'it returns false'. Refute it at one input. -/
def statementOrderWrong : ChangeSpec := { name := "statementOrder", fn := fun _ => fun
  | [d1, d2, d3] => { results := [.lit (.bool false)], args := [d1, d2, d3] }
  | _ => none }
def StatementOrderWrongFalsely : Prop := statementOrderRow.holds Tryd.pinned (OpenSpec.ofChange statementOrderWrong)

/- THE SECOND FORM. 'bulk': how many values and letters a reading holds, each counted each time it is reached (what is shared counts as often as it is met; a slice's spare places count too). A statement '..UptoSaid' is the law's where the arguments, and the package variables that the reading takes, are together of bulk at most 1048576: NARROWER than '..Said'. Prove '..Said' where nothing that the law and all that it calls make is longer than what came in: it says more and counts as full. Else prove '..UptoSaid'. A law counts once. -/
mutual
def uptoBulk {H : Type} : DataW H → Nat
  | .lit (.string bytes) => bytes.length + 1
  | .lit _ => 1
  | .nil => 1
  | .ptr d => uptoBulk d + 1
  | .slice elems spare => uptoBulkAll elems + uptoBulkAll spare + 1
  | .agg parts => uptoBulkAll parts + 1
  | .iface _ d => uptoBulk d + 1
  | .map entries => uptoBulkEntries entries + 1
  | .held _ => 1
def uptoBulkAll {H : Type} : List (DataW H) → Nat
  | [] => 0
  | d :: r => uptoBulk d + uptoBulkAll r
def uptoBulkEntries {H : Type} : List (Lit × DataW H) → Nat
  | [] => 0
  | x :: r => uptoBulkEntry x + uptoBulkEntries r
def uptoBulkEntry {H : Type} : Lit × DataW H → Nat
  | (.string bytes, d) => bytes.length + uptoBulk d + 1
  | (_, d) => uptoBulk d + 1
 end
def uptoSmall : (H : Type) → List (DataW H) → Bool := fun _ ds => decide (uptoBulkAll ds ≤ 1048576)
def OpenSpec.upto (s : _root_.Go.ChangeSpec) : _root_.Go.OpenSpec := { _root_.Go.OpenSpec.ofChange s with cond := some uptoSmall }

/-- 'storagebarterlaw15.StatementNext', WHERE WHAT IT READS IS OF BULK AT MOST 1048576: true; the input reads as it did. -/
def statementNextUptoRow : OpenClaim := { program := "ytcalkhlchjjalaadoor", sum := "92e09b6d0107eec912e8fb4ccfbbb93e2df986070894e989f43d156f9f263adc", func := "storagebarter/storagebarterlaw15.StatementNext", spec := "statementNext", unfollowed := true, recurses := true, named := ["storagebarter/statement.person", "storagebarter/statement.number", "storagebarter/statement.forms"], apart := false, laid := [("storagebarter/statement.number", laid_storagebarter_statement_number), ("storagebarter/statement.person", laid_storagebarter_statement_person), ("storagebarter/statement.forms", laid_storagebarter_statement_forms)], narrowed := true }
def StatementNextUptoSaid : Prop := statementNextUptoRow.holds Tryd.pinned (OpenSpec.upto statementNextSpec)

/-- 'storagebarterlaw15.StatementChecks', WHERE WHAT IT READS IS OF BULK AT MOST 1048576: true; the input reads as it did. -/
def statementChecksUptoRow : OpenClaim := { program := "ytcalkhlchjjalaadoor", sum := "92e09b6d0107eec912e8fb4ccfbbb93e2df986070894e989f43d156f9f263adc", func := "storagebarter/storagebarterlaw15.StatementChecks", spec := "statementChecks", unfollowed := true, recurses := true, named := ["storagebarter/statement.person", "storagebarter/statement.number", "storagebarter/statement.forms"], apart := false, laid := [("storagebarter/statement.number", laid_storagebarter_statement_number), ("storagebarter/statement.person", laid_storagebarter_statement_person), ("storagebarter/statement.forms", laid_storagebarter_statement_forms)], narrowed := true }
def StatementChecksUptoSaid : Prop := statementChecksUptoRow.holds Tryd.pinned (OpenSpec.upto statementChecksSpec)

/-- 'storagebarterlaw15.StatementChains', WHERE WHAT IT READS IS OF BULK AT MOST 1048576: true; the input reads as it did. -/
def statementChainsUptoRow : OpenClaim := { program := "ytcalkhlchjjalaadoor", sum := "92e09b6d0107eec912e8fb4ccfbbb93e2df986070894e989f43d156f9f263adc", func := "storagebarter/storagebarterlaw15.StatementChains", spec := "statementChains", unfollowed := true, recurses := true, named := ["storagebarter/statement.person", "storagebarter/statement.number", "storagebarter/statement.forms"], apart := false, laid := [("storagebarter/statement.number", laid_storagebarter_statement_number), ("storagebarter/statement.person", laid_storagebarter_statement_person), ("storagebarter/statement.forms", laid_storagebarter_statement_forms)], narrowed := true }
def StatementChainsUptoSaid : Prop := statementChainsUptoRow.holds Tryd.pinned (OpenSpec.upto statementChainsSpec)

/-- 'storagebarterlaw15.StatementMarks', WHERE WHAT IT READS IS OF BULK AT MOST 1048576: true; the input reads as it did. -/
def statementMarksUptoRow : OpenClaim := { program := "ytcalkhlchjjalaadoor", sum := "92e09b6d0107eec912e8fb4ccfbbb93e2df986070894e989f43d156f9f263adc", func := "storagebarter/storagebarterlaw15.StatementMarks", spec := "statementMarks", unfollowed := true, recurses := true, named := ["storagebarter/statement.person", "storagebarter/statement.number", "storagebarter/statement.forms"], apart := false, laid := [("storagebarter/statement.number", laid_storagebarter_statement_number), ("storagebarter/statement.person", laid_storagebarter_statement_person), ("storagebarter/statement.forms", laid_storagebarter_statement_forms)], narrowed := true }
def StatementMarksUptoSaid : Prop := statementMarksUptoRow.holds Tryd.pinned (OpenSpec.upto statementMarksSpec)

/-- 'storagebarterlaw15.StatementOrder', WHERE WHAT IT READS IS OF BULK AT MOST 1048576: true; the input reads as it did. -/
def statementOrderUptoRow : OpenClaim := { program := "ytcalkhlchjjalaadoor", sum := "92e09b6d0107eec912e8fb4ccfbbb93e2df986070894e989f43d156f9f263adc", func := "storagebarter/storagebarterlaw15.StatementOrder", spec := "statementOrder", unfollowed := true, recurses := true, named := ["storagebarter/statement.person", "storagebarter/statement.number", "storagebarter/statement.forms"], apart := false, laid := [("storagebarter/statement.number", laid_storagebarter_statement_number), ("storagebarter/statement.person", laid_storagebarter_statement_person), ("storagebarter/statement.forms", laid_storagebarter_statement_forms)], narrowed := true }
def StatementOrderUptoSaid : Prop := statementOrderUptoRow.holds Tryd.pinned (OpenSpec.upto statementOrderSpec)

end Rows
end Go.Proofs.YtcalkhlchjjalaaDoor
