/-
  No cell of these rows narrows 'for every input' (looked for: loops, veiled, ifaces, maps, wideKeys, modest, calm, conditions, laid).
  DERIVED. THE GIVEN ROWS OF THIS SEAT. 10 by the template 'for every input the law returns true; each argument reads behind the call as it read before'; 0 by the template 'total and deterministic' (their statements: YtodhkbahjomfhaaTotals.lean).
  GIVEN WITH THE SEED: the statements are not yours to turn. If you find one false, say at which input.
  Laid BY PROGRAM, IN A SANDBOX (cutbox-rows.mjs): the forced cells as the released guide's own fill.sh prints them over the translation c60c2d9d805a0491… (all of the seat's roots in one cut). By AI agents, Wed Nov 11 2026. No macro, syntax, notation, axiom, sorry.
-/
import Derived.Test.YtodhkbahjomfhaaChecked
import GoSem.Claim
import GoSem.ClaimJoined
import GoSem.ClaimMapViews
import Derived.JoinedTies
import Derived.KernelRfl
namespace Go.Proofs.Ytodhkbahjomfhaa
/- THE CELL 'sum', in the pinned program and in every row, IS THE sha256 OF THE DUMP (.gsa) THAT YtodhkbahjomfhaaProg.lean LOADS. Nothing in Lean hashes anything: it is a label: what it is worth is what the hold of that sum in a sandbox is worth. -/
noncomputable def Try.pinned : Pinned := { name := "ytodhkbahjomfhaa", sum := "c60c2d9d805a04911f619d6f36b4e3468f1683afa832623cde0f21611305c84e", checked := Try.checked }
namespace Rows
def none {H : Type} : Left H := { results := [], args := [] }

/-- 'storagebarterlaw08.ManifestRestores': WHATEVER THE INPUT: true; the input reads as it did. -/
def manifestRestoresSpec : ChangeSpec := { name := "manifestRestores", fn := fun _ => fun
  | [d1, d2, d3] => { results := [.lit (.bool true)], args := [d1, d2, d3] }
  | _ => none }
def manifestRestoresRow : OpenClaim := { program := "ytodhkbahjomfhaa", sum := "c60c2d9d805a04911f619d6f36b4e3468f1683afa832623cde0f21611305c84e", func := "storagebarter/storagebarterlaw08.ManifestRestores", spec := "manifestRestores", inPlace := ["internal/abi.NoEscape"], unfollowed := true, recurses := true, plainKeys := false, apart := false }
def ManifestRestoresSaid : Prop := manifestRestoresRow.holds Try.pinned (OpenSpec.ofChange manifestRestoresSpec)

/-- ITS FALSE NEIGHBOUR: 'it returns false'. Refute it at one input. -/
def manifestRestoresWrong : ChangeSpec := { name := "manifestRestores", fn := fun _ => fun
  | [d1, d2, d3] => { results := [.lit (.bool false)], args := [d1, d2, d3] }
  | _ => none }
def ManifestRestoresWrongFalsely : Prop := manifestRestoresRow.holds Try.pinned (OpenSpec.ofChange manifestRestoresWrong)

/-- 'storagebarterlaw42.ScriptLimits': WHATEVER THE INPUT: true; the input reads as it did. -/
def scriptLimitsSpec : ChangeSpec := { name := "scriptLimits", fn := fun _ => fun
  | [d] => { results := [.lit (.bool true)], args := [d] }
  | _ => none }
def scriptLimitsRow : OpenClaim := { program := "ytodhkbahjomfhaa", sum := "c60c2d9d805a04911f619d6f36b4e3468f1683afa832623cde0f21611305c84e", func := "storagebarter/storagebarterlaw42.ScriptLimits", spec := "scriptLimits", unfollowed := true, recurses := true, plainKeys := false, apart := false }
def ScriptLimitsSaid : Prop := scriptLimitsRow.holds Try.pinned (OpenSpec.ofChange scriptLimitsSpec)

/-- ITS FALSE NEIGHBOUR: 'it returns false'. Refute it at one input. -/
def scriptLimitsWrong : ChangeSpec := { name := "scriptLimits", fn := fun _ => fun
  | [d] => { results := [.lit (.bool false)], args := [d] }
  | _ => none }
def ScriptLimitsWrongFalsely : Prop := scriptLimitsRow.holds Try.pinned (OpenSpec.ofChange scriptLimitsWrong)

/-- 'storagebarterlaw42.ScriptJoins': WHATEVER THE INPUT: true; the input reads as it did. -/
def scriptJoinsSpec : ChangeSpec := { name := "scriptJoins", fn := fun _ => fun
  | [d] => { results := [.lit (.bool true)], args := [d] }
  | _ => none }
def scriptJoinsRow : OpenClaim := { program := "ytodhkbahjomfhaa", sum := "c60c2d9d805a04911f619d6f36b4e3468f1683afa832623cde0f21611305c84e", func := "storagebarter/storagebarterlaw42.ScriptJoins", spec := "scriptJoins", unfollowed := true, recurses := true, plainKeys := false, apart := false }
def ScriptJoinsSaid : Prop := scriptJoinsRow.holds Try.pinned (OpenSpec.ofChange scriptJoinsSpec)

/-- ITS FALSE NEIGHBOUR: 'it returns false'. Refute it at one input. -/
def scriptJoinsWrong : ChangeSpec := { name := "scriptJoins", fn := fun _ => fun
  | [d] => { results := [.lit (.bool false)], args := [d] }
  | _ => none }
def ScriptJoinsWrongFalsely : Prop := scriptJoinsRow.holds Try.pinned (OpenSpec.ofChange scriptJoinsWrong)

/-- 'storagebarterlaw08.ManifestBytes': WHATEVER THE INPUT: true; the input reads as it did. -/
def manifestBytesSpec : ChangeSpec := { name := "manifestBytes", fn := fun _ => fun
  | [d1, d2, d3, d4, d5] => { results := [.lit (.bool true)], args := [d1, d2, d3, d4, d5] }
  | _ => none }
def manifestBytesRow : OpenClaim := { program := "ytodhkbahjomfhaa", sum := "c60c2d9d805a04911f619d6f36b4e3468f1683afa832623cde0f21611305c84e", func := "storagebarter/storagebarterlaw08.ManifestBytes", spec := "manifestBytes", inPlace := ["internal/abi.NoEscape"], unfollowed := true, recurses := true, plainKeys := false, apart := false }
def ManifestBytesSaid : Prop := manifestBytesRow.holds Try.pinned (OpenSpec.ofChange manifestBytesSpec)

/-- ITS FALSE NEIGHBOUR: 'it returns false'. Refute it at one input. -/
def manifestBytesWrong : ChangeSpec := { name := "manifestBytes", fn := fun _ => fun
  | [d1, d2, d3, d4, d5] => { results := [.lit (.bool false)], args := [d1, d2, d3, d4, d5] }
  | _ => none }
def ManifestBytesWrongFalsely : Prop := manifestBytesRow.holds Try.pinned (OpenSpec.ofChange manifestBytesWrong)

/-- 'storagebarterlaw42.ScriptBack': WHATEVER THE INPUT: true; the input reads as it did. -/
def scriptBackSpec : ChangeSpec := { name := "scriptBack", fn := fun _ => fun
  | [d1, d2, d3, d4] => { results := [.lit (.bool true)], args := [d1, d2, d3, d4] }
  | _ => none }
def scriptBackRow : OpenClaim := { program := "ytodhkbahjomfhaa", sum := "c60c2d9d805a04911f619d6f36b4e3468f1683afa832623cde0f21611305c84e", func := "storagebarter/storagebarterlaw42.ScriptBack", spec := "scriptBack", unfollowed := true, recurses := true, plainKeys := false, apart := false }
def ScriptBackSaid : Prop := scriptBackRow.holds Try.pinned (OpenSpec.ofChange scriptBackSpec)

/-- ITS FALSE NEIGHBOUR: 'it returns false'. Refute it at one input. -/
def scriptBackWrong : ChangeSpec := { name := "scriptBack", fn := fun _ => fun
  | [d1, d2, d3, d4] => { results := [.lit (.bool false)], args := [d1, d2, d3, d4] }
  | _ => none }
def ScriptBackWrongFalsely : Prop := scriptBackRow.holds Try.pinned (OpenSpec.ofChange scriptBackWrong)

/-- 'storagebarterlaw08.ManifestBack': WHATEVER THE INPUT: true; the input reads as it did. -/
def manifestBackSpec : ChangeSpec := { name := "manifestBack", fn := fun _ => fun
  | [d1, d2] => { results := [.lit (.bool true)], args := [d1, d2] }
  | _ => none }
def manifestBackRow : OpenClaim := { program := "ytodhkbahjomfhaa", sum := "c60c2d9d805a04911f619d6f36b4e3468f1683afa832623cde0f21611305c84e", func := "storagebarter/storagebarterlaw08.ManifestBack", spec := "manifestBack", inPlace := ["internal/abi.NoEscape"], unfollowed := true, recurses := true, plainKeys := false, apart := false }
def ManifestBackSaid : Prop := manifestBackRow.holds Try.pinned (OpenSpec.ofChange manifestBackSpec)

/-- ITS FALSE NEIGHBOUR: 'it returns false'. Refute it at one input. -/
def manifestBackWrong : ChangeSpec := { name := "manifestBack", fn := fun _ => fun
  | [d1, d2] => { results := [.lit (.bool false)], args := [d1, d2] }
  | _ => none }
def ManifestBackWrongFalsely : Prop := manifestBackRow.holds Try.pinned (OpenSpec.ofChange manifestBackWrong)

/-- 'storagebarterlaw42.ScriptSteps': WHATEVER THE INPUT: true; the input reads as it did. -/
def scriptStepsSpec : ChangeSpec := { name := "scriptSteps", fn := fun _ => fun
  | [d1, d2, d3, d4, d5, d6] => { results := [.lit (.bool true)], args := [d1, d2, d3, d4, d5, d6] }
  | _ => none }
def scriptStepsRow : OpenClaim := { program := "ytodhkbahjomfhaa", sum := "c60c2d9d805a04911f619d6f36b4e3468f1683afa832623cde0f21611305c84e", func := "storagebarter/storagebarterlaw42.ScriptSteps", spec := "scriptSteps", unfollowed := true, recurses := true, plainKeys := false, apart := false }
def ScriptStepsSaid : Prop := scriptStepsRow.holds Try.pinned (OpenSpec.ofChange scriptStepsSpec)

/-- ITS FALSE NEIGHBOUR: 'it returns false'. Refute it at one input. -/
def scriptStepsWrong : ChangeSpec := { name := "scriptSteps", fn := fun _ => fun
  | [d1, d2, d3, d4, d5, d6] => { results := [.lit (.bool false)], args := [d1, d2, d3, d4, d5, d6] }
  | _ => none }
def ScriptStepsWrongFalsely : Prop := scriptStepsRow.holds Try.pinned (OpenSpec.ofChange scriptStepsWrong)

/-- 'storagebarterlaw08.ManifestChanges': WHATEVER THE INPUT: true; the input reads as it did. -/
def manifestChangesSpec : ChangeSpec := { name := "manifestChanges", fn := fun _ => fun
  | [d] => { results := [.lit (.bool true)], args := [d] }
  | _ => none }
def manifestChangesRow : OpenClaim := { program := "ytodhkbahjomfhaa", sum := "c60c2d9d805a04911f619d6f36b4e3468f1683afa832623cde0f21611305c84e", func := "storagebarter/storagebarterlaw08.ManifestChanges", spec := "manifestChanges", inPlace := ["internal/abi.NoEscape"], unfollowed := true, recurses := true, plainKeys := false, apart := false }
def ManifestChangesSaid : Prop := manifestChangesRow.holds Try.pinned (OpenSpec.ofChange manifestChangesSpec)

/-- ITS FALSE NEIGHBOUR: 'it returns false'. Refute it at one input. -/
def manifestChangesWrong : ChangeSpec := { name := "manifestChanges", fn := fun _ => fun
  | [d] => { results := [.lit (.bool false)], args := [d] }
  | _ => none }
def ManifestChangesWrongFalsely : Prop := manifestChangesRow.holds Try.pinned (OpenSpec.ofChange manifestChangesWrong)

/-- 'storagebarterlaw08.ManifestAppends': WHATEVER THE INPUT: true; the input reads as it did. -/
def manifestAppendsSpec : ChangeSpec := { name := "manifestAppends", fn := fun _ => fun
  | [d] => { results := [.lit (.bool true)], args := [d] }
  | _ => none }
def manifestAppendsRow : OpenClaim := { program := "ytodhkbahjomfhaa", sum := "c60c2d9d805a04911f619d6f36b4e3468f1683afa832623cde0f21611305c84e", func := "storagebarter/storagebarterlaw08.ManifestAppends", spec := "manifestAppends", inPlace := ["internal/abi.NoEscape"], unfollowed := true, recurses := true, plainKeys := false, apart := false }
def ManifestAppendsSaid : Prop := manifestAppendsRow.holds Try.pinned (OpenSpec.ofChange manifestAppendsSpec)

/-- ITS FALSE NEIGHBOUR: 'it returns false'. Refute it at one input. -/
def manifestAppendsWrong : ChangeSpec := { name := "manifestAppends", fn := fun _ => fun
  | [d] => { results := [.lit (.bool false)], args := [d] }
  | _ => none }
def ManifestAppendsWrongFalsely : Prop := manifestAppendsRow.holds Try.pinned (OpenSpec.ofChange manifestAppendsWrong)

/-- 'storagebarterlaw08.ManifestDoes': WHATEVER THE INPUT: true; the input reads as it did. -/
def manifestDoesSpec : ChangeSpec := { name := "manifestDoes", fn := fun _ => fun
  | [d1, d2, d3, d4] => { results := [.lit (.bool true)], args := [d1, d2, d3, d4] }
  | _ => none }
def manifestDoesRow : OpenClaim := { program := "ytodhkbahjomfhaa", sum := "c60c2d9d805a04911f619d6f36b4e3468f1683afa832623cde0f21611305c84e", func := "storagebarter/storagebarterlaw08.ManifestDoes", spec := "manifestDoes", inPlace := ["internal/abi.NoEscape"], unfollowed := true, recurses := true, plainKeys := false, apart := false }
def ManifestDoesSaid : Prop := manifestDoesRow.holds Try.pinned (OpenSpec.ofChange manifestDoesSpec)

/-- ITS FALSE NEIGHBOUR: 'it returns false'. Refute it at one input. -/
def manifestDoesWrong : ChangeSpec := { name := "manifestDoes", fn := fun _ => fun
  | [d1, d2, d3, d4] => { results := [.lit (.bool false)], args := [d1, d2, d3, d4] }
  | _ => none }
def ManifestDoesWrongFalsely : Prop := manifestDoesRow.holds Try.pinned (OpenSpec.ofChange manifestDoesWrong)

/- THE SECOND FORM. 'bulk': how many values and letters a reading holds, each counted each time it is reached (what is shared counts as often as it is met; a slice's spare places count too). A statement '..UptoSaid' is the law's where the arguments, and the package variables that the reading takes, are together of bulk at most 1048576: NARROWER than '..Said'. Prove '..Said' where nothing that the law and all that it calls make is longer than what came in: it says more and counts as full. Else prove '..UptoSaid'. A law counts once. -/
mutual
def uptoBulk {H : Type} : DataW H → Nat
  | .lit (.string bytes) => bytes.length + 1
  | .lit _ => 1
  | .nil => 1
  | .ptr d => uptoBulk d + 1
  | .slice elems spare => uptoBulkAll elems + uptoBulkAll spare + 1
  | .agg parts => uptoBulkAll parts + 1
  | .iface _ d => uptoBulk d + 1
  | .map entries => uptoBulkEntries entries + 1
  | .held _ => 1
def uptoBulkAll {H : Type} : List (DataW H) → Nat
  | [] => 0
  | d :: r => uptoBulk d + uptoBulkAll r
def uptoBulkEntries {H : Type} : List (Lit × DataW H) → Nat
  | [] => 0
  | x :: r => uptoBulkEntry x + uptoBulkEntries r
def uptoBulkEntry {H : Type} : Lit × DataW H → Nat
  | (.string bytes, d) => bytes.length + uptoBulk d + 1
  | (_, d) => uptoBulk d + 1
 end
def uptoSmall : (H : Type) → List (DataW H) → Bool := fun _ ds => decide (uptoBulkAll ds ≤ 1048576)
def OpenSpec.upto (s : _root_.Go.ChangeSpec) : _root_.Go.OpenSpec := { _root_.Go.OpenSpec.ofChange s with cond := some uptoSmall }

/-- 'storagebarterlaw08.ManifestRestores', WHERE WHAT IT READS IS OF BULK AT MOST 1048576: true; the input reads as it did. -/
def manifestRestoresUptoRow : OpenClaim := { program := "ytodhkbahjomfhaa", sum := "c60c2d9d805a04911f619d6f36b4e3468f1683afa832623cde0f21611305c84e", func := "storagebarter/storagebarterlaw08.ManifestRestores", spec := "manifestRestores", inPlace := ["internal/abi.NoEscape"], unfollowed := true, recurses := true, plainKeys := false, apart := false, narrowed := true }
def ManifestRestoresUptoSaid : Prop := manifestRestoresUptoRow.holds Try.pinned (OpenSpec.upto manifestRestoresSpec)

/-- 'storagebarterlaw42.ScriptLimits', WHERE WHAT IT READS IS OF BULK AT MOST 1048576: true; the input reads as it did. -/
def scriptLimitsUptoRow : OpenClaim := { program := "ytodhkbahjomfhaa", sum := "c60c2d9d805a04911f619d6f36b4e3468f1683afa832623cde0f21611305c84e", func := "storagebarter/storagebarterlaw42.ScriptLimits", spec := "scriptLimits", unfollowed := true, recurses := true, plainKeys := false, apart := false, narrowed := true }
def ScriptLimitsUptoSaid : Prop := scriptLimitsUptoRow.holds Try.pinned (OpenSpec.upto scriptLimitsSpec)

/-- 'storagebarterlaw42.ScriptJoins', WHERE WHAT IT READS IS OF BULK AT MOST 1048576: true; the input reads as it did. -/
def scriptJoinsUptoRow : OpenClaim := { program := "ytodhkbahjomfhaa", sum := "c60c2d9d805a04911f619d6f36b4e3468f1683afa832623cde0f21611305c84e", func := "storagebarter/storagebarterlaw42.ScriptJoins", spec := "scriptJoins", unfollowed := true, recurses := true, plainKeys := false, apart := false, narrowed := true }
def ScriptJoinsUptoSaid : Prop := scriptJoinsUptoRow.holds Try.pinned (OpenSpec.upto scriptJoinsSpec)

/-- 'storagebarterlaw08.ManifestBytes', WHERE WHAT IT READS IS OF BULK AT MOST 1048576: true; the input reads as it did. -/
def manifestBytesUptoRow : OpenClaim := { program := "ytodhkbahjomfhaa", sum := "c60c2d9d805a04911f619d6f36b4e3468f1683afa832623cde0f21611305c84e", func := "storagebarter/storagebarterlaw08.ManifestBytes", spec := "manifestBytes", inPlace := ["internal/abi.NoEscape"], unfollowed := true, recurses := true, plainKeys := false, apart := false, narrowed := true }
def ManifestBytesUptoSaid : Prop := manifestBytesUptoRow.holds Try.pinned (OpenSpec.upto manifestBytesSpec)

/-- 'storagebarterlaw42.ScriptBack', WHERE WHAT IT READS IS OF BULK AT MOST 1048576: true; the input reads as it did. -/
def scriptBackUptoRow : OpenClaim := { program := "ytodhkbahjomfhaa", sum := "c60c2d9d805a04911f619d6f36b4e3468f1683afa832623cde0f21611305c84e", func := "storagebarter/storagebarterlaw42.ScriptBack", spec := "scriptBack", unfollowed := true, recurses := true, plainKeys := false, apart := false, narrowed := true }
def ScriptBackUptoSaid : Prop := scriptBackUptoRow.holds Try.pinned (OpenSpec.upto scriptBackSpec)

/-- 'storagebarterlaw08.ManifestBack', WHERE WHAT IT READS IS OF BULK AT MOST 1048576: true; the input reads as it did. -/
def manifestBackUptoRow : OpenClaim := { program := "ytodhkbahjomfhaa", sum := "c60c2d9d805a04911f619d6f36b4e3468f1683afa832623cde0f21611305c84e", func := "storagebarter/storagebarterlaw08.ManifestBack", spec := "manifestBack", inPlace := ["internal/abi.NoEscape"], unfollowed := true, recurses := true, plainKeys := false, apart := false, narrowed := true }
def ManifestBackUptoSaid : Prop := manifestBackUptoRow.holds Try.pinned (OpenSpec.upto manifestBackSpec)

/-- 'storagebarterlaw42.ScriptSteps', WHERE WHAT IT READS IS OF BULK AT MOST 1048576: true; the input reads as it did. -/
def scriptStepsUptoRow : OpenClaim := { program := "ytodhkbahjomfhaa", sum := "c60c2d9d805a04911f619d6f36b4e3468f1683afa832623cde0f21611305c84e", func := "storagebarter/storagebarterlaw42.ScriptSteps", spec := "scriptSteps", unfollowed := true, recurses := true, plainKeys := false, apart := false, narrowed := true }
def ScriptStepsUptoSaid : Prop := scriptStepsUptoRow.holds Try.pinned (OpenSpec.upto scriptStepsSpec)

/-- 'storagebarterlaw08.ManifestChanges', WHERE WHAT IT READS IS OF BULK AT MOST 1048576: true; the input reads as it did. -/
def manifestChangesUptoRow : OpenClaim := { program := "ytodhkbahjomfhaa", sum := "c60c2d9d805a04911f619d6f36b4e3468f1683afa832623cde0f21611305c84e", func := "storagebarter/storagebarterlaw08.ManifestChanges", spec := "manifestChanges", inPlace := ["internal/abi.NoEscape"], unfollowed := true, recurses := true, plainKeys := false, apart := false, narrowed := true }
def ManifestChangesUptoSaid : Prop := manifestChangesUptoRow.holds Try.pinned (OpenSpec.upto manifestChangesSpec)

/-- 'storagebarterlaw08.ManifestAppends', WHERE WHAT IT READS IS OF BULK AT MOST 1048576: true; the input reads as it did. -/
def manifestAppendsUptoRow : OpenClaim := { program := "ytodhkbahjomfhaa", sum := "c60c2d9d805a04911f619d6f36b4e3468f1683afa832623cde0f21611305c84e", func := "storagebarter/storagebarterlaw08.ManifestAppends", spec := "manifestAppends", inPlace := ["internal/abi.NoEscape"], unfollowed := true, recurses := true, plainKeys := false, apart := false, narrowed := true }
def ManifestAppendsUptoSaid : Prop := manifestAppendsUptoRow.holds Try.pinned (OpenSpec.upto manifestAppendsSpec)

/-- 'storagebarterlaw08.ManifestDoes', WHERE WHAT IT READS IS OF BULK AT MOST 1048576: true; the input reads as it did. -/
def manifestDoesUptoRow : OpenClaim := { program := "ytodhkbahjomfhaa", sum := "c60c2d9d805a04911f619d6f36b4e3468f1683afa832623cde0f21611305c84e", func := "storagebarter/storagebarterlaw08.ManifestDoes", spec := "manifestDoes", inPlace := ["internal/abi.NoEscape"], unfollowed := true, recurses := true, plainKeys := false, apart := false, narrowed := true }
def ManifestDoesUptoSaid : Prop := manifestDoesUptoRow.holds Try.pinned (OpenSpec.upto manifestDoesSpec)

end Rows
end Go.Proofs.Ytodhkbahjomfhaa
