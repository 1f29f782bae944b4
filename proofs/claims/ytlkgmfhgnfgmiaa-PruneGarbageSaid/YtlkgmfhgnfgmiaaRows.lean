/-
  No cell of these rows narrows 'for every input' (looked for: loops, veiled, ifaces, maps, wideKeys, modest, calm, conditions, laid).
  DERIVED. THE GIVEN ROWS OF THIS SEAT. 8 by the template 'for every input the law returns true; each argument reads behind the call as it read before'; 0 by the template 'total and deterministic' (their statements: YtlkgmfhgnfgmiaaTotals.lean).
  GIVEN WITH THE SEED: the statements are not yours to turn. If you find one false, say at which input.
  Laid BY PROGRAM, IN A SANDBOX (cutbox-rows.mjs): the forced cells as the released guide's own fill.sh prints them over the translation fc05fbce753485d7… (all of the seat's roots in one cut). By AI agents, Wed Nov 11 2026. No macro, syntax, notation, axiom, sorry.
-/
import Derived.Test.YtlkgmfhgnfgmiaaChecked
import GoSem.Claim
import GoSem.ClaimJoined
import GoSem.ClaimMapViews
import Derived.JoinedTies
import Derived.KernelRfl
namespace Go.Proofs.Ytlkgmfhgnfgmiaa
/- THE CELL 'sum', in the pinned program and in every row, IS THE sha256 OF THE DUMP (.gsa) THAT YtlkgmfhgnfgmiaaProg.lean LOADS. Nothing in Lean hashes anything: it is a label: what it is worth is what the hold of that sum in a sandbox is worth. -/
noncomputable def Try.pinned : Pinned := { name := "ytlkgmfhgnfgmiaa", sum := "fc05fbce753485d7bc7b5cb4722005f78c5b15c439d27dbcf2f5e5ddcf39b906", checked := Try.checked }
namespace Rows
def none {H : Type} : Left H := { results := [], args := [] }

/-- 'storagebarterlaw38.MigrateMoves': WHATEVER THE INPUT: true; the input reads as it did. -/
def migrateMovesSpec : ChangeSpec := { name := "migrateMoves", fn := fun _ => fun
  | [d] => { results := [.lit (.bool true)], args := [d] }
  | _ => none }
def migrateMovesRow : OpenClaim := { program := "ytlkgmfhgnfgmiaa", sum := "fc05fbce753485d7bc7b5cb4722005f78c5b15c439d27dbcf2f5e5ddcf39b906", func := "storagebarter/storagebarterlaw38.MigrateMoves", spec := "migrateMoves", unfollowed := true, recurses := true, apart := false }
def MigrateMovesSaid : Prop := migrateMovesRow.holds Try.pinned (OpenSpec.ofChange migrateMovesSpec)

/-- ITS FALSE NEIGHBOUR: 'it returns false'. Refute it at one input. -/
def migrateMovesWrong : ChangeSpec := { name := "migrateMoves", fn := fun _ => fun
  | [d] => { results := [.lit (.bool false)], args := [d] }
  | _ => none }
def MigrateMovesWrongFalsely : Prop := migrateMovesRow.holds Try.pinned (OpenSpec.ofChange migrateMovesWrong)

/-- 'storagebarterlaw38.MigrateNowhere': WHATEVER THE INPUT: true; the input reads as it did. -/
def migrateNowhereSpec : ChangeSpec := { name := "migrateNowhere", fn := fun _ => fun
  | [d] => { results := [.lit (.bool true)], args := [d] }
  | _ => none }
def migrateNowhereRow : OpenClaim := { program := "ytlkgmfhgnfgmiaa", sum := "fc05fbce753485d7bc7b5cb4722005f78c5b15c439d27dbcf2f5e5ddcf39b906", func := "storagebarter/storagebarterlaw38.MigrateNowhere", spec := "migrateNowhere", unfollowed := true, recurses := true, apart := false }
def MigrateNowhereSaid : Prop := migrateNowhereRow.holds Try.pinned (OpenSpec.ofChange migrateNowhereSpec)

/-- ITS FALSE NEIGHBOUR: 'it returns false'. Refute it at one input. -/
def migrateNowhereWrong : ChangeSpec := { name := "migrateNowhere", fn := fun _ => fun
  | [d] => { results := [.lit (.bool false)], args := [d] }
  | _ => none }
def MigrateNowhereWrongFalsely : Prop := migrateNowhereRow.holds Try.pinned (OpenSpec.ofChange migrateNowhereWrong)

/-- 'storagebarterlaw38.MigratePresent': WHATEVER THE INPUT: true; the input reads as it did. -/
def migratePresentSpec : ChangeSpec := { name := "migratePresent", fn := fun _ => fun
  | [d] => { results := [.lit (.bool true)], args := [d] }
  | _ => none }
def migratePresentRow : OpenClaim := { program := "ytlkgmfhgnfgmiaa", sum := "fc05fbce753485d7bc7b5cb4722005f78c5b15c439d27dbcf2f5e5ddcf39b906", func := "storagebarter/storagebarterlaw38.MigratePresent", spec := "migratePresent", unfollowed := true, recurses := true, apart := false }
def MigratePresentSaid : Prop := migratePresentRow.holds Try.pinned (OpenSpec.ofChange migratePresentSpec)

/-- ITS FALSE NEIGHBOUR: 'it returns false'. Refute it at one input. -/
def migratePresentWrong : ChangeSpec := { name := "migratePresent", fn := fun _ => fun
  | [d] => { results := [.lit (.bool false)], args := [d] }
  | _ => none }
def MigratePresentWrongFalsely : Prop := migratePresentRow.holds Try.pinned (OpenSpec.ofChange migratePresentWrong)

/-- 'storagebarterlaw39.PruneKeeps': WHATEVER THE INPUT: true; the input reads as it did. -/
def pruneKeepsSpec : ChangeSpec := { name := "pruneKeeps", fn := fun _ => fun
  | [d1, d2] => { results := [.lit (.bool true)], args := [d1, d2] }
  | _ => none }
def pruneKeepsRow : OpenClaim := { program := "ytlkgmfhgnfgmiaa", sum := "fc05fbce753485d7bc7b5cb4722005f78c5b15c439d27dbcf2f5e5ddcf39b906", func := "storagebarter/storagebarterlaw39.PruneKeeps", spec := "pruneKeeps", recurses := true, apart := false }
def PruneKeepsSaid : Prop := pruneKeepsRow.holds Try.pinned (OpenSpec.ofChange pruneKeepsSpec)

/-- ITS FALSE NEIGHBOUR: 'it returns false'. Refute it at one input. -/
def pruneKeepsWrong : ChangeSpec := { name := "pruneKeeps", fn := fun _ => fun
  | [d1, d2] => { results := [.lit (.bool false)], args := [d1, d2] }
  | _ => none }
def PruneKeepsWrongFalsely : Prop := pruneKeepsRow.holds Try.pinned (OpenSpec.ofChange pruneKeepsWrong)

/-- 'storagebarterlaw39.PruneTwice': WHATEVER THE INPUT: true; the input reads as it did. -/
def pruneTwiceSpec : ChangeSpec := { name := "pruneTwice", fn := fun _ => fun
  | [d1, d2] => { results := [.lit (.bool true)], args := [d1, d2] }
  | _ => none }
def pruneTwiceRow : OpenClaim := { program := "ytlkgmfhgnfgmiaa", sum := "fc05fbce753485d7bc7b5cb4722005f78c5b15c439d27dbcf2f5e5ddcf39b906", func := "storagebarter/storagebarterlaw39.PruneTwice", spec := "pruneTwice", recurses := true, apart := false }
def PruneTwiceSaid : Prop := pruneTwiceRow.holds Try.pinned (OpenSpec.ofChange pruneTwiceSpec)

/-- ITS FALSE NEIGHBOUR: 'it returns false'. Refute it at one input. -/
def pruneTwiceWrong : ChangeSpec := { name := "pruneTwice", fn := fun _ => fun
  | [d1, d2] => { results := [.lit (.bool false)], args := [d1, d2] }
  | _ => none }
def PruneTwiceWrongFalsely : Prop := pruneTwiceRow.holds Try.pinned (OpenSpec.ofChange pruneTwiceWrong)

/-- 'storagebarterlaw39.PruneSteps': WHATEVER THE INPUT: true; the input reads as it did. -/
def pruneStepsSpec : ChangeSpec := { name := "pruneSteps", fn := fun _ => fun
  | [d1, d2, d3, d4, d5, d6] => { results := [.lit (.bool true)], args := [d1, d2, d3, d4, d5, d6] }
  | _ => none }
def pruneStepsRow : OpenClaim := { program := "ytlkgmfhgnfgmiaa", sum := "fc05fbce753485d7bc7b5cb4722005f78c5b15c439d27dbcf2f5e5ddcf39b906", func := "storagebarter/storagebarterlaw39.PruneSteps", spec := "pruneSteps", unfollowed := true, recurses := true, apart := false }
def PruneStepsSaid : Prop := pruneStepsRow.holds Try.pinned (OpenSpec.ofChange pruneStepsSpec)

/-- ITS FALSE NEIGHBOUR: 'it returns false'. Refute it at one input. -/
def pruneStepsWrong : ChangeSpec := { name := "pruneSteps", fn := fun _ => fun
  | [d1, d2, d3, d4, d5, d6] => { results := [.lit (.bool false)], args := [d1, d2, d3, d4, d5, d6] }
  | _ => none }
def PruneStepsWrongFalsely : Prop := pruneStepsRow.holds Try.pinned (OpenSpec.ofChange pruneStepsWrong)

/-- 'storagebarterlaw39.PruneGarbage': WHATEVER THE INPUT: true; the input reads as it did. -/
def pruneGarbageSpec : ChangeSpec := { name := "pruneGarbage", fn := fun _ => fun
  | [d1, d2] => { results := [.lit (.bool true)], args := [d1, d2] }
  | _ => none }
def pruneGarbageRow : OpenClaim := { program := "ytlkgmfhgnfgmiaa", sum := "fc05fbce753485d7bc7b5cb4722005f78c5b15c439d27dbcf2f5e5ddcf39b906", func := "storagebarter/storagebarterlaw39.PruneGarbage", spec := "pruneGarbage", unfollowed := true, recurses := true, apart := false }
def PruneGarbageSaid : Prop := pruneGarbageRow.holds Try.pinned (OpenSpec.ofChange pruneGarbageSpec)

/-- ITS FALSE NEIGHBOUR: 'it returns false'. Refute it at one input. -/
def pruneGarbageWrong : ChangeSpec := { name := "pruneGarbage", fn := fun _ => fun
  | [d1, d2] => { results := [.lit (.bool false)], args := [d1, d2] }
  | _ => none }
def PruneGarbageWrongFalsely : Prop := pruneGarbageRow.holds Try.pinned (OpenSpec.ofChange pruneGarbageWrong)

/-- 'storagebarterlaw38.MigrateShares': WHATEVER THE INPUT: true; the input reads as it did. -/
def migrateSharesSpec : ChangeSpec := { name := "migrateShares", fn := fun _ => fun
  | [d] => { results := [.lit (.bool true)], args := [d] }
  | _ => none }
def migrateSharesRow : OpenClaim := { program := "ytlkgmfhgnfgmiaa", sum := "fc05fbce753485d7bc7b5cb4722005f78c5b15c439d27dbcf2f5e5ddcf39b906", func := "storagebarter/storagebarterlaw38.MigrateShares", spec := "migrateShares", unfollowed := true, recurses := true, apart := false }
def MigrateSharesSaid : Prop := migrateSharesRow.holds Try.pinned (OpenSpec.ofChange migrateSharesSpec)

/-- ITS FALSE NEIGHBOUR: 'it returns false'. Refute it at one input. -/
def migrateSharesWrong : ChangeSpec := { name := "migrateShares", fn := fun _ => fun
  | [d] => { results := [.lit (.bool false)], args := [d] }
  | _ => none }
def MigrateSharesWrongFalsely : Prop := migrateSharesRow.holds Try.pinned (OpenSpec.ofChange migrateSharesWrong)

/- THE SECOND FORM. 'bulk': how many values and letters a reading holds, each counted each time it is reached (what is shared counts as often as it is met; a slice's spare places count too). A statement '..UptoSaid' is the law's where the arguments, and the package variables that the reading takes, are together of bulk at most 1048576: NARROWER than '..Said'. Prove '..Said' where nothing that the law and all that it calls make is longer than what came in: it says more and counts as full. Else prove '..UptoSaid'. A law counts once. -/
mutual
def uptoBulk {H : Type} : DataW H → Nat
  | .lit (.string bytes) => bytes.length + 1
  | .lit _ => 1
  | .nil => 1
  | .ptr d => uptoBulk d + 1
  | .slice elems spare => uptoBulkAll elems + uptoBulkAll spare + 1
  | .agg parts => uptoBulkAll parts + 1
  | .iface _ d => uptoBulk d + 1
  | .map entries => uptoBulkEntries entries + 1
  | .held _ => 1
def uptoBulkAll {H : Type} : List (DataW H) → Nat
  | [] => 0
  | d :: r => uptoBulk d + uptoBulkAll r
def uptoBulkEntries {H : Type} : List (Lit × DataW H) → Nat
  | [] => 0
  | x :: r => uptoBulkEntry x + uptoBulkEntries r
def uptoBulkEntry {H : Type} : Lit × DataW H → Nat
  | (.string bytes, d) => bytes.length + uptoBulk d + 1
  | (_, d) => uptoBulk d + 1
 end
def uptoSmall : (H : Type) → List (DataW H) → Bool := fun _ ds => decide (uptoBulkAll ds ≤ 1048576)
def OpenSpec.upto (s : _root_.Go.ChangeSpec) : _root_.Go.OpenSpec := { _root_.Go.OpenSpec.ofChange s with cond := some uptoSmall }

/-- 'storagebarterlaw38.MigrateMoves', WHERE WHAT IT READS IS OF BULK AT MOST 1048576: true; the input reads as it did. -/
def migrateMovesUptoRow : OpenClaim := { program := "ytlkgmfhgnfgmiaa", sum := "fc05fbce753485d7bc7b5cb4722005f78c5b15c439d27dbcf2f5e5ddcf39b906", func := "storagebarter/storagebarterlaw38.MigrateMoves", spec := "migrateMoves", unfollowed := true, recurses := true, apart := false, narrowed := true }
def MigrateMovesUptoSaid : Prop := migrateMovesUptoRow.holds Try.pinned (OpenSpec.upto migrateMovesSpec)

/-- 'storagebarterlaw38.MigrateNowhere', WHERE WHAT IT READS IS OF BULK AT MOST 1048576: true; the input reads as it did. -/
def migrateNowhereUptoRow : OpenClaim := { program := "ytlkgmfhgnfgmiaa", sum := "fc05fbce753485d7bc7b5cb4722005f78c5b15c439d27dbcf2f5e5ddcf39b906", func := "storagebarter/storagebarterlaw38.MigrateNowhere", spec := "migrateNowhere", unfollowed := true, recurses := true, apart := false, narrowed := true }
def MigrateNowhereUptoSaid : Prop := migrateNowhereUptoRow.holds Try.pinned (OpenSpec.upto migrateNowhereSpec)

/-- 'storagebarterlaw38.MigratePresent', WHERE WHAT IT READS IS OF BULK AT MOST 1048576: true; the input reads as it did. -/
def migratePresentUptoRow : OpenClaim := { program := "ytlkgmfhgnfgmiaa", sum := "fc05fbce753485d7bc7b5cb4722005f78c5b15c439d27dbcf2f5e5ddcf39b906", func := "storagebarter/storagebarterlaw38.MigratePresent", spec := "migratePresent", unfollowed := true, recurses := true, apart := false, narrowed := true }
def MigratePresentUptoSaid : Prop := migratePresentUptoRow.holds Try.pinned (OpenSpec.upto migratePresentSpec)

/-- 'storagebarterlaw39.PruneKeeps', WHERE WHAT IT READS IS OF BULK AT MOST 1048576: true; the input reads as it did. -/
def pruneKeepsUptoRow : OpenClaim := { program := "ytlkgmfhgnfgmiaa", sum := "fc05fbce753485d7bc7b5cb4722005f78c5b15c439d27dbcf2f5e5ddcf39b906", func := "storagebarter/storagebarterlaw39.PruneKeeps", spec := "pruneKeeps", recurses := true, apart := false, narrowed := true }
def PruneKeepsUptoSaid : Prop := pruneKeepsUptoRow.holds Try.pinned (OpenSpec.upto pruneKeepsSpec)

/-- 'storagebarterlaw39.PruneTwice', WHERE WHAT IT READS IS OF BULK AT MOST 1048576: true; the input reads as it did. -/
def pruneTwiceUptoRow : OpenClaim := { program := "ytlkgmfhgnfgmiaa", sum := "fc05fbce753485d7bc7b5cb4722005f78c5b15c439d27dbcf2f5e5ddcf39b906", func := "storagebarter/storagebarterlaw39.PruneTwice", spec := "pruneTwice", recurses := true, apart := false, narrowed := true }
def PruneTwiceUptoSaid : Prop := pruneTwiceUptoRow.holds Try.pinned (OpenSpec.upto pruneTwiceSpec)

/-- 'storagebarterlaw39.PruneSteps', WHERE WHAT IT READS IS OF BULK AT MOST 1048576: true; the input reads as it did. -/
def pruneStepsUptoRow : OpenClaim := { program := "ytlkgmfhgnfgmiaa", sum := "fc05fbce753485d7bc7b5cb4722005f78c5b15c439d27dbcf2f5e5ddcf39b906", func := "storagebarter/storagebarterlaw39.PruneSteps", spec := "pruneSteps", unfollowed := true, recurses := true, apart := false, narrowed := true }
def PruneStepsUptoSaid : Prop := pruneStepsUptoRow.holds Try.pinned (OpenSpec.upto pruneStepsSpec)

/-- 'storagebarterlaw39.PruneGarbage', WHERE WHAT IT READS IS OF BULK AT MOST 1048576: true; the input reads as it did. -/
def pruneGarbageUptoRow : OpenClaim := { program := "ytlkgmfhgnfgmiaa", sum := "fc05fbce753485d7bc7b5cb4722005f78c5b15c439d27dbcf2f5e5ddcf39b906", func := "storagebarter/storagebarterlaw39.PruneGarbage", spec := "pruneGarbage", unfollowed := true, recurses := true, apart := false, narrowed := true }
def PruneGarbageUptoSaid : Prop := pruneGarbageUptoRow.holds Try.pinned (OpenSpec.upto pruneGarbageSpec)

/-- 'storagebarterlaw38.MigrateShares', WHERE WHAT IT READS IS OF BULK AT MOST 1048576: true; the input reads as it did. -/
def migrateSharesUptoRow : OpenClaim := { program := "ytlkgmfhgnfgmiaa", sum := "fc05fbce753485d7bc7b5cb4722005f78c5b15c439d27dbcf2f5e5ddcf39b906", func := "storagebarter/storagebarterlaw38.MigrateShares", spec := "migrateShares", unfollowed := true, recurses := true, apart := false, narrowed := true }
def MigrateSharesUptoSaid : Prop := migrateSharesUptoRow.holds Try.pinned (OpenSpec.upto migrateSharesSpec)

end Rows
end Go.Proofs.Ytlkgmfhgnfgmiaa
